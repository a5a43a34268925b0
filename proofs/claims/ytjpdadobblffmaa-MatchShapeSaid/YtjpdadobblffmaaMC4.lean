import Derived.Test.YtjpdadobblffmaaMC3
set_option linter.unusedSimpArgs false
set_option linter.unusedVariables false
/-
  Blocks that are written out from any numbers close where they must.
-/
namespace Go.Proofs.Ytjpdadobblffmaa
open Go.RowKit Go.ChangeShapes Go.WideShapes Go.ChangeAt Go.Deep
attribute [local irreducible] SW RS RD AThen ABlock
section
variable {P : Program} {n : Nat} {ops : Array Oper} {rest : List Oper} {fr : Fr} {σ σ' : Sto} {K : ASt → Prop} {ty t kt et : TypeId} {pos : _} {af : _} {x y z : Operand}
/-- m[k] = v, a step -/
theorem mu [Ty P t (.map kt et)] [Ty P kt (.int .i64)] {r : Nat} {ks : List Int} {xs : List AV} {q : Int} {v : AV} (h : aev ⟨fr, σ⟩ x = some (.mp r)) (hq : aev ⟨fr, σ⟩ y = some (.int .i64 q)) (hv : aev ⟨fr, σ⟩ z = some v) (hs : SSet σ r (.map ks xs) r (.map (mputK ks q) (mputX ks xs q v)) σ')
    (hK : RS P n ops rest ⟨fr, σ'⟩ K) : RS P n ops (⟨none, .mapUpdate t x y z, ty, pos, af, none⟩ :: rest) ⟨fr, σ⟩ K :=
  rs_heavy (hop_mapUpdate h hs.get hq hv (rs_sub (fun p hp => hs.sub p hp) hK))
end
/-- what holds at each round: i, the ops, the blocks, the map, the rows' names -/
abbrev Sb := Nat × List Int × MS × List (Int × Int) × Nat × Nat
def ShI (l : List Int) (m : Nat) (b : Sb) : Prop := ShOk b.2.1 b.2.2.1 b.2.2.2.1 ∧ b.1 ≤ l.length ∧ b.1 ≤ 60 ∧ b.2.1.length ≤ b.1 ∧ b.2.2.1.opn.length ≤ 20 ∧ Nq b.2.2.2.2.1 b.2.2.2.2.2 ∧ Nq b.2.2.2.2.1 m ∧ Nq b.2.2.2.2.2 m
def ShS (l : List Int) (m : Nat) (b : Sb) : ASt := ⟨[(0, .ro 1 (l.map encI) .any), (4, .own b.2.2.2.2.1 0 b.2.1.length), (5, .own b.2.2.2.2.2 0 (opL b.2.2.1).length), (6, .mp m), (7, .int .i64 (opL b.2.2.1).length), (8, .int .i64 b.1)],
  [(b.2.2.2.2.1, .arr 27 4 (b.2.1.map encO)), (b.2.2.2.2.2, .arr 3 1 ((opL b.2.2.1).map encI)), (m, .map (kvK b.2.2.2.1) (kvX b.2.2.2.1))]⟩
abbrev Sc := List Int × MS × List (Int × Int) × Nat × Nat
def ShJ (m : Nat) (b : Sc) : Prop := ShOk b.1 b.2.1 b.2.2.1 ∧ b.1.length + b.2.1.opn.length ≤ 80 ∧ Nq b.2.2.2.1 b.2.2.2.2 ∧ Nq b.2.2.2.1 m ∧ Nq b.2.2.2.2 m
theorem modq (w : Int) {k : Int} (hk : 0 < k) : (-k < w.tmod k ∧ w.tmod k < k) ∧ (0 ≤ (w.tmod k + k).tmod k ∧ (w.tmod k + k).tmod k < k) := by
  have h1 : -k < w.tmod k ∧ w.tmod k < k := ⟨Int.lt_tmod_of_pos w hk, Int.tmod_lt_of_pos w hk⟩
  have h2 := Int.tmod_nonneg (a := w.tmod k + k) k (by omega)
  have h3 := Int.tmod_lt_of_pos (w.tmod k + k) hk
  exact ⟨h1, h2, h3⟩
theorem ite_l2 {a b : Prop} [Decidable a] [Decidable b] (h : (if decide a = true then decide b else false) = true) : a ∧ b := by
  by_cases ha : a
  · rw [if_pos (decide_eq_true ha)] at h; exact ⟨ha, of_decide_eq_true h⟩
  · rw [if_neg (by simpa using ha)] at h; cases h
theorem ite_l3 {a c : Bool} (h : (if c = true then a else false) = true) : c = true ∧ a = true := by cases c <;> cases a <;> simp_all
theorem opsOf_insO (ops : List Int) : opsOf (ops.map insO) = ops := by
  unfold opsOf
  rw [List.map_map]
  exact (List.map_congr_left fun x _ => rfl).trans (List.map_id _)
theorem three (w : Int) : isO (2 + (w.tmod 3 + 3).tmod 3) = true := by
  have h := (modq w (k := 3) (by decide)).2
  have : (w.tmod 3 + 3).tmod 3 = 0 ∨ (w.tmod 3 + 3).tmod 3 = 1 ∨ (w.tmod 3 + 3).tmod 3 = 2 := by omega
  rcases this with e | e | e <;> rw [e] <;> rfl
theorem mputK_kv {kv : List (Int × Int)} {q : Int} (h : q ∉ kvK kv) (v : Int) : mputK (kvK kv) q = kvK (kv ++ [(q, v)]) := by rw [mputK_new h]; simp [kvK]
theorem mputX_kv {kv : List (Int × Int)} {q v : Int} (h : q ∉ kvK kv) : mputX (kvK kv) (kvX kv) q (.int .i64 v) = kvX (kv ++ [(q, v)]) := by rw [mputX_new h]; simp [kvX]
theorem mlook_get {ks : List Int} {xs : List AV} {q : Int} {x z : AV} (h : mget ks xs q = some x) : mlook ks xs q z false = x := by simp [mlook, h]
theorem hop_lopM {P : Program} {n : Nat} {op : Op} {ty : TypeId} {d : Nat} {s : ASt} {v : AV} {rs : List Nat} {K : ASt → Prop} (h : Lop P op ty s true v rs) (hd : d < n) (hK : K (s.put d v)) : Hop P n op ty (some d) s [] K := by
  intro M F N a w o ho ht hdst hr next Q hnext
  obtain ⟨u, hu, hrun⟩ := h.2 M F N n a w hr rfl
  obtain ⟨dst, op', ty', pos, after, guard⟩ := o
  dsimp only at ho ht hdst
  subst ho ht hdst
  unfold Oper.wp
  rw [hrun w _ rfl rfl (fun _ _ => rfl)]
  exact hnext _ _ _ _ _ _ (hr.put hd hu) (Ext.refl _ _ _ _ _) (Only.refl _ _) hK
/-- m[k], k in the map, a step of a drawn region -/
theorem dlm {P : Program} {n i d : Nat} {ops : Array Oper} {listed : Array Bool} {todo : List (Nat × Bool)} {held : List (Nat × List Nat)} {fr : Fr} {σ : Sto} {K : ASt → Prop} {ty t kt et : TypeId} {pos : String} {af : Array Edge} {x y : Operand} [Ty P t (.map kt et)] [Ty P kt (.int .i64)] {sz by_ : Nat} {zv : Value} [Tz P et sz by_ zv] {r : Nat} {ks : List Int} {xs : List AV} {q : Int} {u : AV}
    (hi : ops[i]? = some ⟨some d, .lookup t x y false, ty, pos, af, none⟩) (h : aev ⟨fr, σ⟩ x = some (.mp r)) (hg : sget σ r = some (.map ks xs)) (hq : aev ⟨fr, σ⟩ y = some (.int .i64 q)) (hm : mget ks xs q = some u) (hd : Nat.ble (d + 1) n = true)
    (hK : RD P n ops (listed.setIfInBounds i true) todo held ⟨(d, u) :: fr, σ⟩ K) : RD P n ops listed ((i, false) :: todo) held ⟨fr, σ⟩ K := by
  have hl := lop_lookup_mp (P := P) (t := t) (kt := kt) (et := et) (ok := false) (c := true) (ty := ty) (s := ⟨fr, σ⟩) (E h) hg (E hq)
  rw [mlook_get hm] at hl
  exact rd_new hi (hop_lopM hl (lt_ble hd) hK)
theorem shp_prev {B : List Int} {s : MS} {kv : List (Int × Int)} (hS : ShOk B s kv) {j : Nat} {b : Bk} (hb : s.all[j]? = some b) : j = 0 ∨ ∃ i c, j = i + 1 ∧ s.all[i]? = some c ∧ c.at_ < b.at_ := by
  obtain ⟨hlt, hbe⟩ := List.getElem?_eq_some_iff.1 hb
  rcases j with _ | i
  · exact Or.inl rfl
  · refine Or.inr ⟨i, s.all[i]'(by omega), rfl, List.getElem?_eq_getElem _, ?_⟩
    have := List.pairwise_iff_getElem.1 (mrun_ok3 hS.run).inc i (i + 1) (by simp; omega) (by simpa using hlt) (by omega)
    rw [List.getElem_map, List.getElem_map, hbe] at this
    exact this
theorem shp_at {B : List Int} {s : MS} {kv : List (Int × Int)} (hS : ShOk B s kv) (ho : s.opn = []) (hbl : blN B = s.all) {j : Nat} {b : Bk} (hb : s.all[j]? = some b) :
    b.en - 1 ≤ (b.at_ : Int) ∨ (∃ (p : Nat) (w : Int), b.en - 1 = p ∧ (b.at_ : Int) < p ∧ B[p]? = some w ∧ w ≠ 1) ∨ ∃ p : Nat, b.en - 1 = p ∧ (b.at_ : Int) < p ∧ B[p]? = some 1 ∧ ∃ t, tgN B p = (b.at_ : Int) :: t := by
  by_cases h : b.en - 1 ≤ (b.at_ : Int)
  · exact Or.inl h
  · have hcl := (mrun_ok3 hS.run).cl j b hb (by rw [ho]; simp)
    obtain ⟨p, hp⟩ : ∃ p : Nat, b.en - 1 = p := ⟨(b.en - 1).toNat, by omega⟩
    obtain ⟨w, hw⟩ : ∃ w, B[p]? = some w := ⟨_, List.getElem?_eq_getElem (by omega)⟩
    by_cases hw1 : w = 1
    · subst hw1
      exact Or.inr (Or.inr ⟨p, hp, by omega, hw, tg_head hS.no5 hS.run ho hS.els hbl hb (by omega) (by omega) hw⟩)
    · exact Or.inr (Or.inl ⟨p, w, hp, by omega, hw, hw1⟩)
set_option maxHeartbeats 2000000 in
set_option maxRecDepth 100000 in
theorem law_matchShape (l : List Int) : SCall Try.prog 3 [.ro 1 (l.map encI) .any] [] (fun x _ => x = .bool true) := by
  refine scall_of (n := 223) (ks := [0, 2, 3, 4, 5, 6, 7, 8, 9, 10, 11, 12, 13, 16, 25, 39, 66, 94, 128, 132, 173, 222]) Try.func3 rfl rfl (Nat.le_of_ble_eq_true rfl) ?_
  (refine ctlT ?_)
  refine rgT ?_
  refine lo (lop_assign (E rfl)) rfl ?_
  refine leT ?_
  (refine ctlT ?_)
  refine rgT ?_
  refine puA Try.call4 law_begun6 rfl pargsT nofT ?_
  refine lo (lop_assign (E rfl)) rfl ?_
  refine leT ?_
  (refine ctlT ?_)
  refine rgT ?_
  refine lo (lop_move (E rfl)) rfl ?_
  refine lo (lop_not (E rfl)) rfl ?_
  refine leT ?_
  (refine ctlT ?_)
  refine rgT ?_
  refine lo (lop_assign (E rfl)) rfl ?_
  refine leT ?_
  (refine ctlT ?_)
  refine rgT ?_
  refine lo (lop_assign (E rfl)) rfl ?_
  refine leT ?_
  (refine ctlT ?_)
  refine rgT ?_
  refine rs_heavy (hop_makeMap (lt_ble rfl) ?_)
  refine freshT fun r17 h17 => ?_; (repeat (rcases h17 with ⟨_, h17⟩))
  refine lo (lop_assign (E rfl)) rfl ?_
  refine leT ?_
  (refine ctlT ?_)
  refine rgT ?_
  refine lo (lop_assign (E rfl)) rfl ?_
  refine leT ?_
  (refine ctlT ?_)
  refine rgT ?_
  refine lo (lop_assign (E rfl)) rfl ?_
  refine leT ?_
  (refine ctlT ?_)
  refine sw_virt 4 27 4 (by decide) rfl (by decide) (freshT fun q0 hq0 => ?_); (repeat (rcases hq0 with ⟨_, hq0⟩))
  refine sw_virt 5 3 1 (by decide) rfl (by decide) (freshT fun p0 hp0 => ?_); (repeat (rcases hp0 with ⟨_, hp0⟩))
  refine lp (β := Sb) (ShS l r17) (ShI l r17) (fun b => 60 - b.1) (0, [], ⟨[], []⟩, [], q0, p0) sgoT ⟨sh_nil, Nat.zero_le _, Nat.zero_le 60, Nat.le_refl _, Nat.zero_le 20, by show Nq q0 p0; (exact nqT), by show Nq q0 r17; (exact nqT), by show Nq p0 r17; (exact nqT)⟩ ?_
  rintro ⟨i, B, s, kv, qb, qo⟩ ⟨hS, hi, hi6, hB, ho, n1, n2, n3⟩
  have hol := opL_len s
  unfold ShS
  dsimp only at hS hi hi6 hB ho n1 n2 n3 hol ⊢
  (refine ctlT ?_)
  refine rgT ?_
  refine lo (lop_move (E rfl)) rfl ?_
  refine lo (lop_move (E rfl)) rfl ?_
  refine z14 ?_
  refine lo (lop_lss (E rfl) (E rfl)) rfl ?_
  refine lo (lop_move (E rfl)) rfl ?_
  refine z109 ?_
  refine z162 ?_
  refine z68 ?_
  refine leT ?_
  (refine ctlT ?_)
  refine sw_cond rfl (fun g9 => ?_) (fun g9 => ?_)
  · have hlt : (i : Int) < l.length ∧ (i : Int) < 60 := ite_l2 g9
    obtain ⟨w, hw⟩ : ∃ w, l[i]? = some w := ⟨_, List.getElem?_eq_getElem (by omega)⟩
    obtain ⟨⟨m1, m2⟩, m3, m4⟩ := modq w (k := 4) (by decide)
    (refine ctlT ?_)
    refine rgT ?_
    refine lo (lop_move (E rfl)) rfl ?_
    refine lo (lop_move (E rfl)) rfl ?_
    refine z15 ?_
    refine z16 ?_
    refine z22 ?_
    refine z17 ?_
    refine z22 ?_
    refine lo (lop_assign (E rfl)) rfl ?_
    refine leT ?_
    (refine ctlT ?_)
    refine rgT ?_
    refine lo (lop_move (E rfl)) rfl ?_
    refine lo (lop_eql (E rfl) (E rfl)) rfl ?_
    refine lo (lop_move (E rfl)) rfl ?_
    refine z109 ?_
    refine z162 ?_
    refine z68 ?_
    refine lo (lop_assign (E rfl)) rfl ?_
    refine leT ?_
    (refine ctlT ?_)
    refine sw_cond rfl (fun g13 => ?_) (fun g13 => ?_)
    · have hd : (opL s).length < 20 := by have := (ite_l3 g13).2; simp at this; omega
      (refine ctlT ?_)
      refine rgT ?_
      refine lo (lop_move (E rfl)) rfl ?_
      refine lo (lop_move (E rfl)) rfl ?_
      refine z14 ?_
      refine z1 ?_; refine freshT fun r49 h49 => ?_; (repeat (rcases h49 with ⟨_, h49⟩))
      refine apA ((opL s ++ [(B.length : Int)]).map encI) (opL s ++ [(B.length : Int)]).length ?_
      refine apnT fun r50 h50 => ?_; (repeat (rcases h50 with ⟨_, h50⟩))
      refine lo (lop_assign (E rfl)) rfl ?_
      refine leT ?_
      (refine ctlT ?_)
      refine rgT ?_
      refine lo (lop_move (E rfl)) rfl ?_
      refine lo (lop_move (E rfl)) rfl ?_
      refine lo (lop_move (E rfl)) rfl ?_
      refine z15 ?_
      refine z16 ?_
      refine lo (lop_quo (E rfl) (E rfl) (fun _ => by decide)) rfl ?_
      generalize IntKind.i64.wrap (w.tdiv 4) = v
      obtain ⟨⟨m5, m6⟩, m7, m8⟩ := modq v (k := 3) (by decide)
      refine z22 ?_
      refine z17 ?_
      refine z22 ?_
      refine z17 ?_
      refine z93 ?_
      refine z1 ?_; refine freshT fun r62 h62 => ?_; (repeat (rcases h62 with ⟨_, h62⟩))
      refine apA ((B ++ [2 + (v.tmod 3 + 3).tmod 3]).map encO) (B ++ [2 + (v.tmod 3 + 3).tmod 3]).length ?_
      refine apnT fun r63 h63 => ?_; (repeat (rcases h63 with ⟨_, h63⟩))
      refine lo (lop_assign (E rfl)) rfl ?_
      refine leT ?_
      (refine ctlT ?_)
      refine rgT ?_
      refine lo (lop_move (E rfl)) rfl ?_
      refine z17 ?_
      refine lo (lop_assign (E rfl)) rfl ?_
      refine leT ?_
      (refine ctlT ?_)
      have hN : ShI l r17 (i + 1, B ++ [2 + (v.tmod 3 + 3).tmod 3], ⟨s.all ++ [⟨B.length, -1, -1⟩], s.opn ++ [s.all.length]⟩, kv, r63, r50) := ⟨(sh_open hS (three _) (by omega)).1, by dsimp only; omega, by dsimp only; omega, by simp; omega, by simp; omega, by show Nq r63 r50; (exact nqT), by show Nq r63 r17; (exact nqT), by show Nq r50 r17; (exact nqT)⟩
      have hL := (sh_open hS (three v) (by omega)).2
      rw [show ((opL s).length : Int) + 1 = ((opL ⟨s.all ++ [⟨B.length, -1, -1⟩], s.opn ++ [s.all.length]⟩).length : Nat) by rw [hL]; simp, ← hL]
      refine rgT ?_
      refine lo (lop_move (E rfl)) rfl ?_
      refine z17 ?_
      refine lo (lop_assign (E rfl)) rfl ?_
      refine leT ?_
      (refine ctlT ?_)
      refine ⟨_, hN, by show 60 - (i + 1) < 60 - i; omega, ?_⟩
      dsimp only
      (exact sgoT)
    (refine ctlT ?_)
    refine rgT ?_
    refine lo (lop_move (E rfl)) rfl ?_
    refine lo (lop_eql (E rfl) (E rfl)) rfl ?_
    refine lo (lop_move (E rfl)) rfl ?_
    refine z109 ?_
    refine z125 ?_
    refine z68 ?_
    refine lo (lop_assign (E rfl)) rfl ?_
    refine leT ?_
    (refine ctlT ?_)
    refine sw_cond rfl (fun g17 => ?_) (fun g17 => ?_)
    · (refine ctlT ?_)
      have hne : s.opn ≠ [] := fun e => by have := (ite_l3 g17).2; rw [hol, e] at this; simp at this
      obtain ⟨s', a, r, hop, hop', ha, hlen, hS'⟩ := sh_close hS hne
      have hrn : r.length + 1 = s.opn.length := by have := congrArg List.length hop; rw [hol] at this; simpa using this.symm
      rw [hop]
      have hra : (r ++ [a])[r.length]? = some a := by simp
      have hra2 := nat_at hra
      have hrl : (r ++ [a]).length = r.length + 1 := by simp
      refine rgT ?_
      refine lo (lop_move (E rfl)) rfl ?_
      refine lo (lop_move (E rfl)) rfl ?_
      refine lo (lop_move (E rfl)) rfl ?_
      refine z14 ?_
      refine z19 ?_
      rw [show (((r ++ [a]).length : Nat) : Int) - 1 = (r.length : Nat) by simp]
      refine z15 ?_
      refine z16 ?_
      refine lo (lop_move (E rfl)) rfl ?_
      refine z14 ?_
      refine mu rfl rfl rfl ssetT ?_
      rw [mputK_kv ha (B.length : Int), mputX_kv ha]
      refine leT ?_
      (refine ctlT ?_)
      refine rgT ?_
      refine lo (lop_move (E rfl)) rfl ?_
      refine lo (lop_move (E rfl)) rfl ?_
      refine z14 ?_
      refine z19 ?_
      refine z100 ?_
      refine lo (lop_assign (E rfl)) rfl ?_
      refine leT ?_
      (refine ctlT ?_)
      rw [show ((((r ++ [a]).length : Nat) : Int) - 1).toNat - 0 = r.length by simp]
      refine sw_go (sgo_cut (o := qo) r.length ssetT) ?_
      rw [show List.take r.length ((r ++ [a]).map encI) = r.map encI by simp]
      refine rgT ?_
      refine lo (lop_move (E rfl)) rfl ?_
      refine z93 ?_
      refine z1 ?_; refine freshT fun r89 h89 => ?_; (repeat (rcases h89 with ⟨_, h89⟩))
      refine apA ((B ++ [11]).map encO) (B ++ [11]).length ?_
      refine apnT fun r90 h90 => ?_; (repeat (rcases h90 with ⟨_, h90⟩))
      refine lo (lop_assign (E rfl)) rfl ?_
      refine leT ?_
      (refine ctlT ?_)
      refine rgT ?_
      refine lo (lop_move (E rfl)) rfl ?_
      refine z19 ?_
      refine lo (lop_assign (E rfl)) rfl ?_
      refine leT ?_
      (refine ctlT ?_)
      have hN : ShI l r17 (i + 1, B ++ [11], s', kv ++ [(a, (B.length : Int))], r90, qo) := ⟨hS', by dsimp only; omega, by dsimp only; omega, by simp; omega, by dsimp only; omega, by show Nq r90 qo; (exact nqT), by show Nq r90 r17; (exact nqT), n3⟩
      rw [show (((r ++ [a]).length : Nat) : Int) - 1 = (r.length : Nat) by simp, ← hop']
      refine rgT ?_
      refine lo (lop_move (E rfl)) rfl ?_
      refine z17 ?_
      refine lo (lop_assign (E rfl)) rfl ?_
      refine leT ?_
      (refine ctlT ?_)
      refine ⟨_, hN, by show 60 - (i + 1) < 60 - i; omega, ?_⟩
      dsimp only
      (exact sgoT)
    (refine ctlT ?_)
    refine rgT ?_
    refine lo (lop_move (E rfl)) rfl ?_
    refine z93 ?_
    refine z1 ?_; refine freshT fun r37 h37 => ?_; (repeat (rcases h37 with ⟨_, h37⟩))
    refine apA ((B ++ [1]).map encO) (B ++ [1]).length ?_
    refine apnT fun r38 h38 => ?_; (repeat (rcases h38 with ⟨_, h38⟩))
    refine lo (lop_assign (E rfl)) rfl ?_
    refine leT ?_
    (refine ctlT ?_)
    have hN : ShI l r17 (i + 1, B ++ [1], s, kv, r38, qo) := ⟨sh_nop hS, by dsimp only; omega, by dsimp only; omega, by simp; omega, ho, by show Nq r38 qo; (exact nqT), by show Nq r38 r17; (exact nqT), n3⟩
    refine rgT ?_
    refine lo (lop_move (E rfl)) rfl ?_
    refine z17 ?_
    refine lo (lop_assign (E rfl)) rfl ?_
    refine leT ?_
    (refine ctlT ?_)
    refine ⟨_, hN, by show 60 - (i + 1) < 60 - i; omega, ?_⟩
    dsimp only
    (exact sgoT)
  (refine ctlT ?_)
  refine lp (β := Sc) (fun b => ⟨[(4, .own b.2.2.2.1 0 b.1.length), (5, .own b.2.2.2.2 0 (opL b.2.1).length), (6, .mp r17), (7, .int .i64 (opL b.2.1).length)], [(b.2.2.2.1, .arr 27 4 (b.1.map encO)), (b.2.2.2.2, .arr 3 1 ((opL b.2.1).map encI)), (r17, .map (kvK b.2.2.1) (kvX b.2.2.1))]⟩) (ShJ r17) (fun b => b.2.1.opn.length) (B, s, kv, qb, qo) sgoT ⟨hS, by dsimp only; omega, n1, n2, n3⟩ ?_
  clear hS hi hi6 hB ho n1 n2 n3 hol
  rintro ⟨B, s, kv, qb, qo⟩ ⟨hS, hB, n1, n2, n3⟩
  have hol := opL_len s
  dsimp only at hS hB n1 n2 n3 hol ⊢
  (refine ctlT ?_)
  refine rgT ?_
  refine lo (lop_move (E rfl)) rfl ?_
  refine lo (lop_gtr (E rfl) (E rfl)) rfl ?_
  refine leT ?_
  (refine ctlT ?_)
  refine sw_cond rfl (fun g22 => ?_) (fun g22 => ?_)
  · (refine ctlT ?_)
    have hne : s.opn ≠ [] := fun e => by have := g22; rw [hol, e] at this; simp at this
    obtain ⟨s', a, r, hop, hop', ha, hlen, hS'⟩ := sh_close hS hne
    have hrn : r.length + 1 = s.opn.length := by have := congrArg List.length hop; rw [hol] at this; simpa using this.symm
    rw [hop]
    have hra : (r ++ [a])[r.length]? = some a := by simp
    have hra2 := nat_at hra
    have hrl : (r ++ [a]).length = r.length + 1 := by simp
    refine rgT ?_
    refine lo (lop_move (E rfl)) rfl ?_
    refine lo (lop_move (E rfl)) rfl ?_
    refine lo (lop_move (E rfl)) rfl ?_
    refine z14 ?_
    refine z19 ?_
    rw [show (((r ++ [a]).length : Nat) : Int) - 1 = (r.length : Nat) by simp]
    refine z15 ?_
    refine z16 ?_
    refine lo (lop_move (E rfl)) rfl ?_
    refine z14 ?_
    refine mu rfl rfl rfl ssetT ?_
    rw [mputK_kv ha (B.length : Int), mputX_kv ha]
    refine leT ?_
    (refine ctlT ?_)
    refine rgT ?_
    refine lo (lop_move (E rfl)) rfl ?_
    refine lo (lop_move (E rfl)) rfl ?_
    refine z14 ?_
    refine z19 ?_
    refine z100 ?_
    refine lo (lop_assign (E rfl)) rfl ?_
    refine leT ?_
    (refine ctlT ?_)
    rw [show ((((r ++ [a]).length : Nat) : Int) - 1).toNat - 0 = r.length by simp]
    refine sw_go (sgo_cut (o := qo) r.length ssetT) ?_
    rw [show List.take r.length ((r ++ [a]).map encI) = r.map encI by simp]
    refine rgT ?_
    refine lo (lop_move (E rfl)) rfl ?_
    refine z93 ?_
    refine z1 ?_; refine freshT fun r111 h111 => ?_; (repeat (rcases h111 with ⟨_, h111⟩))
    refine apA ((B ++ [11]).map encO) (B ++ [11]).length ?_
    refine apnT fun r112 h112 => ?_; (repeat (rcases h112 with ⟨_, h112⟩))
    refine lo (lop_assign (E rfl)) rfl ?_
    refine leT ?_
    (refine ctlT ?_)
    refine rgT ?_
    refine lo (lop_move (E rfl)) rfl ?_
    refine z19 ?_
    refine lo (lop_assign (E rfl)) rfl ?_
    refine leT ?_
    (refine ctlT ?_)
    rw [show (((r ++ [a]).length : Nat) : Int) - 1 = (r.length : Nat) by simp, ← hop']
    refine ⟨(B ++ [11], s', kv ++ [(a, (B.length : Int))], r112, qo), ⟨hS', by simp; omega, by show Nq r112 qo; (exact nqT), by show Nq r112 r17; (exact nqT), n3⟩, by show s'.opn.length < s.opn.length; omega, ?_⟩
    (exact sgoT)
  have ho0 : s.opn = [] := List.eq_nil_of_length_eq_zero (by have := of_decide_eq_false g22; omega)
  obtain ⟨hok, hbl, hkl⟩ := sh_end hS ho0 (by omega)
  have hal : s.all.length ≤ B.length := by have := (blN_ok B).1; rw [hbl] at this; exact this
  refine fzvs (j := 4) rfl sdelT (bor_own sgT (by simp)) ?_
  refine sw_go (sgo_ops (j := 4) (ops := B) rfl) ?_
  (refine ctlT ?_)
  refine rgT ?_
  refine lo (lop_move (E rfl)) rfl ?_
  refine cw [] Try.call5 (code_match (B.map insO) (by simp; omega)) rfl argsleT stleT ?_
  rintro _ σ' ⟨q3, rfl, rfl⟩ h117
  replace h117 := cnewT h117; (repeat (rcases h117 with ⟨_, h117⟩))
  rw [opsOf_insO, hbl, hok]
  (apply rs_sto; (exact nflT))
  refine lo (lop_move (E rfl)) rfl ?_
  refine lo (lop_extract (E rfl) rfl) rfl ?_
  refine lo (lop_extract (E rfl) rfl) rfl ?_
  refine lo (lop_assign (E rfl)) rfl ?_
  refine lo (lop_assign (E rfl)) rfl ?_
  refine leT ?_
  (refine ctlT ?_)
  refine fzvs (j := 10) rfl sdelT (bor_own sgT (by simp)) ?_
  refine rgT ?_
  refine lo (lop_move (E rfl)) rfl ?_
  refine lo (lop_not (E rfl)) rfl ?_
  refine lo (lop_move (E rfl)) rfl ?_
  rw [show (!true) = false from rfl]
  refine z109 ?_
  refine z124 ?_
  refine z109 ?_
  refine gy rfl rfl ?_
  refine lo (lop_len_mp (E rfl) sgT) rfl ?_
  refine z167 ?_
  rw [show (((s.all.length : Nat) : Int) != ((kvK kv).length : Nat)) = false by simp [kvK, hkl]]
  refine z113 ?_
  refine leT ?_
  (refine ctlT ?_)
  refine rgT ?_
  refine lo (lop_assign (E rfl)) rfl ?_
  refine leT ?_
  (refine ctlT ?_)
  refine lp (β := Nat) (fun j => ⟨[(4, .ro 4 ((B.map insO).map (iv .any)) .any), (6, .mp r17), (10, .ro 3 (s.all.map encK) .any), (12, .int .i64 j)], [(r17, .map (kvK kv) (kvX kv))]⟩) (fun j => j ≤ s.all.length) (fun j => s.all.length - j) 0 sgoT (Nat.zero_le _) ?_
  rintro j hj
  (try dsimp only)
  (refine ctlT ?_)
  refine rgT ?_
  refine lo (lop_move (E rfl)) rfl ?_
  refine lo (lop_move (E rfl)) rfl ?_
  refine z14 ?_
  refine lo (lop_lss (E rfl) (E rfl)) rfl ?_
  refine leT ?_
  (refine ctlT ?_)
  refine sw_cond rfl (fun g31 => ?_) (fun g31 => ?_)
  · have hlt : j < s.all.length := by simpa using g31
    obtain ⟨b, hb⟩ : ∃ b, s.all[j]? = some b := ⟨_, List.getElem?_eq_getElem hlt⟩
    have hb2 := nat_at hb
    have hget := hS.get j b hb (by rw [ho0]; simp)
    have hels := hS.els b (List.mem_of_getElem? hb)
    have hcl := (mrun_ok3 hS.run).cl j b hb (by rw [ho0]; simp)
    (refine ctlT ?_)
    obtain hj0 | ⟨i', c, hji, hc, hcb⟩ := shp_prev hS hb
    · refine rgD [(0, true), (1, true), (2, true), (3, true), (4, true), (5, true), (7, true), (8, true), (9, true), (10, true), (11, true), (6, false), (12, true), (13, true), (14, true), (15, true), (16, true), (17, true), (18, true), (19, true), (20, true), (21, true), (22, true), (23, true), (24, true), (25, true), (26, true), (27, true), (28, true), (29, true), (30, true), (31, true), (32, true), (33, true), (34, true), (35, true), (36, true), (37, true), (38, true)] ?_
      refine dlo rfl (lop_move (E rfl)) rfl ?_
      refine dlo rfl (lop_move (E rfl)) rfl ?_
      refine dlo rfl (lop_move (E rfl)) rfl ?_
      refine z56 ?_
      refine z161 ?_
      refine z57 ?_
      refine dlo rfl (lop_move (E rfl)) rfl ?_
      refine dlo rfl (lop_move (E rfl)) rfl ?_
      refine z56 ?_
      refine z161 ?_
      refine z57 ?_
      refine dlm rfl rfl sgT rfl hget rfl ?_
      refine z58 ?_
      rw [show (b.en != b.en) = false by simp]
      refine dlo rfl (lop_move (E rfl)) rfl ?_
      refine z156 ?_
      refine z156 ?_
      refine z157 ?_
      refine z170 ?_
      refine z158 ?_
      refine z184 ?_
      rw [show (b.els != -1) = false by rw [hels]; rfl]
      refine z172 ?_
      refine dlo rfl (lop_move (E rfl)) rfl ?_
      refine z156 ?_
      first | refine dln rfl rfl rfl rfl rfl ?_ | (refine dly rfl rfl rfl (lop_gtr (by first | exact W rfl id | exact E rfl) (E rfl)) rfl ?_) | refine dlg rfl rfl rfl (lop_gtr (by first | exact W rfl id | exact E rfl) (E rfl)) rfl ?_
      rw [show decide ((0 : Int) < (j : Int)) = false from decide_eq_false (by omega)]
      first | refine dln rfl rfl rfl rfl rfl ?_ | (refine dly rfl rfl rfl (lop_move (by first | exact W rfl id | exact E rfl)) rfl ?_) | refine dlg rfl rfl rfl (lop_move (by first | exact W rfl id | exact E rfl)) rfl ?_
      first | refine dln rfl rfl rfl rfl rfl ?_ | (refine dly rfl rfl rfl (lop_move (E rfl)) rfl ?_) | refine dlg rfl rfl rfl (lop_move (E rfl)) rfl ?_ | refine dlw rfl rfl rfl (lop_move (E rfl)) rfl ?_ | refine dlw rfl rfl rfl (lop_no (v := .bool false)) rfl ?_
      first | refine dln rfl rfl rfl rfl rfl ?_ | (refine dly rfl rfl rfl (lop_move (E rfl)) rfl ?_) | refine dlg rfl rfl rfl (lop_move (E rfl)) rfl ?_ | refine dlw rfl rfl rfl (lop_move (E rfl)) rfl ?_ | refine dlw rfl rfl rfl (lop_no (v := .bool false)) rfl ?_
      first
        | refine dln rfl rfl rfl rfl rfl ?_
        | (
          first
           | refine dly rfl rfl rfl (lop_index_ro (by
            first
             | exact W rfl id
             | exact E rfl) (by
            first
             | exact W rfl id
             | exact E rfl) (fun hc => by (simp only [List.length_map]; omega))) rfl ?_
           | refine dly rfl rfl rfl (lop_index_own0 (by
            first
             | exact W rfl id
             | exact E rfl) sgT (by
            first
             | exact W rfl id
             | exact E rfl) (fun hc => by omega)) rfl ?_
           | refine dly rfl rfl rfl (lop_index_own (by
            first
             | exact W rfl id
             | exact E rfl) sgT (by
            first
             | exact W rfl id
             | exact E rfl) (fun hc => by omega)) rfl ?_)
        | refine dlg rfl rfl rfl (lop_index_ro (by
           first
            | exact W rfl (by
            first
             | exact id
             | simp)
            | exact E rfl) (by
           first
            | exact W rfl (by
            first
             | exact id
             | simp)
            | exact E rfl) (fun hc => by (try simp at hc) <;> (simp only [List.length_map]; omega))) rfl ?_
        | refine dlg rfl rfl rfl (lop_index_own0 (by
           first
            | exact W rfl (by
            first
             | exact id
             | simp)
            | exact E rfl) sgT (by
           first
            | exact W rfl (by
            first
             | exact id
             | simp)
            | exact E rfl) (fun hc => by (try simp at hc) <;> omega)) rfl ?_
        | refine dlg rfl rfl rfl (lop_index_own (by
           first
            | exact W rfl (by
            first
             | exact id
             | simp)
            | exact E rfl) sgT (by
           first
            | exact W rfl (by
            first
             | exact id
             | simp)
            | exact E rfl) (fun hc => by (try simp at hc) <;> omega)) rfl ?_
        | refine dlw rfl rfl rfl (lop_index_ro (by
           first
            | exact W rfl (by
            first
             | exact id
             | simp)
            | exact E rfl) (by
           first
            | exact W rfl (by
            first
             | exact id
             | simp)
            | exact E rfl) (fun hc => by (try simp at hc) <;> (simp only [List.length_map]; omega))) rfl ?_
        | refine dlw rfl rfl rfl (lop_index_own0 (by
           first
            | exact W rfl (by
            first
             | exact id
             | simp)
            | exact E rfl) sgT (by
           first
            | exact W rfl (by
            first
             | exact id
             | simp)
            | exact E rfl) (fun hc => by (try simp at hc) <;> omega)) rfl ?_
        | refine dlw rfl rfl rfl (lop_index_own (by
           first
            | exact W rfl (by
            first
             | exact id
             | simp)
            | exact E rfl) sgT (by
           first
            | exact W rfl (by
            first
             | exact id
             | simp)
            | exact E rfl) (fun hc => by (try simp at hc) <;> omega)) rfl ?_
        | refine dlw rfl rfl rfl (lop_no (v := .bool false)) rfl ?_
      first | refine dln rfl rfl rfl rfl rfl ?_ | (first | refine dly rfl rfl rfl (lop_field_el (by first | exact W rfl id | exact E rfl) rfl (by decide)) rfl ?_ | refine dly rfl rfl rfl (lop_field_ow (by first | exact W rfl id | exact E rfl) rfl (by decide)) rfl ?_) | refine dlg rfl rfl rfl (lop_field_el (by first | exact W rfl (by first | exact id | simp) | exact E rfl) rfl (by decide)) rfl ?_ | refine dlg rfl rfl rfl (lop_field_ow (by first | exact W rfl (by first | exact id | simp) | exact E rfl) rfl (by decide)) rfl ?_ | refine dlw rfl rfl rfl (lop_field_el (by first | exact W rfl (by first | exact id | simp) | exact E rfl) rfl (by decide)) rfl ?_ | refine dlw rfl rfl rfl (lop_field_ow (by first | exact W rfl (by first | exact id | simp) | exact E rfl) rfl (by decide)) rfl ?_ | refine dlw rfl rfl rfl (lop_no (v := .bool false)) rfl ?_
      first
        | refine dln rfl rfl rfl rfl rfl ?_
        | (
          first
           | refine dly rfl rfl rfl (lop_load_el (by
            first
             | exact W rfl id
             | exact E rfl) rfl (fun hc => by
            first
             | rfl
             | exact get_map (by assumption)
             | assumption
             | exact get_map (at_bang (by omega))) (fun _ => rfl)) rfl ?_
           | refine dly rfl rfl rfl (lop_load_ow (by
            first
             | exact W rfl id
             | exact E rfl) rfl sgT (fun hc => by
            first
             | rfl
             | exact get_map (by assumption)
             | assumption
             | exact get_map (at_bang (by omega))) (fun _ => rfl)) rfl ?_)
        | refine dlg rfl rfl rfl (lop_load_el (by
           first
            | exact W rfl (by
            first
             | exact id
             | simp)
            | exact E rfl) rfl (fun hc => by
           first
            | rfl
            | exact get_map (by assumption)
            | assumption
            | exact get_map (at_bang (by (try simp at hc) <;> omega))) (fun _ => rfl)) rfl ?_
        | refine dlg rfl rfl rfl (lop_load_ow (by
           first
            | exact W rfl (by
            first
             | exact id
             | simp)
            | exact E rfl) rfl sgT (fun hc => by
           first
            | rfl
            | exact get_map (by assumption)
            | assumption
            | exact get_map (at_bang (by (try simp at hc) <;> omega))) (fun _ => rfl)) rfl ?_
        | refine dlw rfl rfl rfl (lop_load_el (by
           first
            | exact W rfl (by
            first
             | exact id
             | simp)
            | exact E rfl) rfl (fun hc => by
           first
            | rfl
            | exact get_map (by assumption)
            | assumption
            | exact get_map (at_bang (by (try simp at hc) <;> omega))) (fun _ => rfl)) rfl ?_
        | refine dlw rfl rfl rfl (lop_load_ow (by
           first
            | exact W rfl (by
            first
             | exact id
             | simp)
            | exact E rfl) rfl sgT (fun hc => by
           first
            | rfl
            | exact get_map (by assumption)
            | assumption
            | exact get_map (at_bang (by (try simp at hc) <;> omega))) (fun _ => rfl)) rfl ?_
        | refine dlw rfl rfl rfl (lop_no (v := .bool false)) rfl ?_
      first | refine dln rfl rfl rfl rfl rfl ?_ | (refine dly rfl rfl rfl (lop_move (E rfl)) rfl ?_) | refine dlg rfl rfl rfl (lop_move (E rfl)) rfl ?_ | refine dlw rfl rfl rfl (lop_move (E rfl)) rfl ?_ | refine dlw rfl rfl rfl (lop_no (v := .bool false)) rfl ?_
      first | refine dln rfl rfl rfl rfl rfl ?_ | (refine dly rfl rfl rfl (lop_move (E rfl)) rfl ?_) | refine dlg rfl rfl rfl (lop_move (E rfl)) rfl ?_ | refine dlw rfl rfl rfl (lop_move (E rfl)) rfl ?_ | refine dlw rfl rfl rfl (lop_no (v := .bool false)) rfl ?_
      first | refine dln rfl rfl rfl rfl rfl ?_ | (first | refine dly rfl rfl rfl (lop_sub64 (by first | exact W rfl id | exact E rfl) (E rfl) (by omega) (by omega)) rfl ?_ | refine dly rfl rfl rfl (lop_sub (by first | exact W rfl id | exact E rfl) (E rfl)) rfl ?_) | refine dlg rfl rfl rfl (lop_sub64 (by first | exact W rfl (by first | exact id | simp) | exact E rfl) (E rfl) (by omega) (by omega)) rfl ?_ | refine dlg rfl rfl rfl (lop_sub64c (by first | exact W rfl (by first | exact id | simp) | exact E rfl) (E rfl) (fun hc => by simp at hc <;> first | omega | (have hov := hov hc; omega))) rfl ?_ | refine dlg rfl rfl rfl (lop_sub (by first | exact W rfl (by first | exact id | simp) | exact E rfl) (E rfl)) rfl ?_ | refine dlw rfl rfl rfl (lop_sub64 (by first | exact W rfl (by first | exact id | simp) | exact E rfl) (E rfl) (by omega) (by omega)) rfl ?_ | refine dlw rfl rfl rfl (lop_sub64c (by first | exact W rfl (by first | exact id | simp) | exact E rfl) (E rfl) (fun hc => by simp at hc <;> first | omega | (have hov := hov hc; omega))) rfl ?_ | refine dlw rfl rfl rfl (lop_sub (by first | exact W rfl (by first | exact id | simp) | exact E rfl) (E rfl)) rfl ?_ | refine dlw rfl rfl rfl (lop_no (v := .bool false)) rfl ?_
      first
        | refine dln rfl rfl rfl rfl rfl ?_
        | (
          first
           | refine dly rfl rfl rfl (lop_index_ro (by
            first
             | exact W rfl id
             | exact E rfl) (by
            first
             | exact W rfl id
             | exact E rfl) (fun hc => by (simp only [List.length_map]; omega))) rfl ?_
           | refine dly rfl rfl rfl (lop_index_own0 (by
            first
             | exact W rfl id
             | exact E rfl) sgT (by
            first
             | exact W rfl id
             | exact E rfl) (fun hc => by omega)) rfl ?_
           | refine dly rfl rfl rfl (lop_index_own (by
            first
             | exact W rfl id
             | exact E rfl) sgT (by
            first
             | exact W rfl id
             | exact E rfl) (fun hc => by omega)) rfl ?_)
        | refine dlg rfl rfl rfl (lop_index_ro (by
           first
            | exact W rfl (by
            first
             | exact id
             | simp)
            | exact E rfl) (by
           first
            | exact W rfl (by
            first
             | exact id
             | simp)
            | exact E rfl) (fun hc => by (try simp at hc) <;> (simp only [List.length_map]; omega))) rfl ?_
        | refine dlg rfl rfl rfl (lop_index_own0 (by
           first
            | exact W rfl (by
            first
             | exact id
             | simp)
            | exact E rfl) sgT (by
           first
            | exact W rfl (by
            first
             | exact id
             | simp)
            | exact E rfl) (fun hc => by (try simp at hc) <;> omega)) rfl ?_
        | refine dlg rfl rfl rfl (lop_index_own (by
           first
            | exact W rfl (by
            first
             | exact id
             | simp)
            | exact E rfl) sgT (by
           first
            | exact W rfl (by
            first
             | exact id
             | simp)
            | exact E rfl) (fun hc => by (try simp at hc) <;> omega)) rfl ?_
        | refine dlw rfl rfl rfl (lop_index_ro (by
           first
            | exact W rfl (by
            first
             | exact id
             | simp)
            | exact E rfl) (by
           first
            | exact W rfl (by
            first
             | exact id
             | simp)
            | exact E rfl) (fun hc => by (try simp at hc) <;> (simp only [List.length_map]; omega))) rfl ?_
        | refine dlw rfl rfl rfl (lop_index_own0 (by
           first
            | exact W rfl (by
            first
             | exact id
             | simp)
            | exact E rfl) sgT (by
           first
            | exact W rfl (by
            first
             | exact id
             | simp)
            | exact E rfl) (fun hc => by (try simp at hc) <;> omega)) rfl ?_
        | refine dlw rfl rfl rfl (lop_index_own (by
           first
            | exact W rfl (by
            first
             | exact id
             | simp)
            | exact E rfl) sgT (by
           first
            | exact W rfl (by
            first
             | exact id
             | simp)
            | exact E rfl) (fun hc => by (try simp at hc) <;> omega)) rfl ?_
        | refine dlw rfl rfl rfl (lop_no (v := .bool false)) rfl ?_
      first | refine dln rfl rfl rfl rfl rfl ?_ | (first | refine dly rfl rfl rfl (lop_field_el (by first | exact W rfl id | exact E rfl) rfl (by decide)) rfl ?_ | refine dly rfl rfl rfl (lop_field_ow (by first | exact W rfl id | exact E rfl) rfl (by decide)) rfl ?_) | refine dlg rfl rfl rfl (lop_field_el (by first | exact W rfl (by first | exact id | simp) | exact E rfl) rfl (by decide)) rfl ?_ | refine dlg rfl rfl rfl (lop_field_ow (by first | exact W rfl (by first | exact id | simp) | exact E rfl) rfl (by decide)) rfl ?_ | refine dlw rfl rfl rfl (lop_field_el (by first | exact W rfl (by first | exact id | simp) | exact E rfl) rfl (by decide)) rfl ?_ | refine dlw rfl rfl rfl (lop_field_ow (by first | exact W rfl (by first | exact id | simp) | exact E rfl) rfl (by decide)) rfl ?_ | refine dlw rfl rfl rfl (lop_no (v := .bool false)) rfl ?_
      first
        | refine dln rfl rfl rfl rfl rfl ?_
        | (
          first
           | refine dly rfl rfl rfl (lop_load_el (by
            first
             | exact W rfl id
             | exact E rfl) rfl (fun hc => by
            first
             | rfl
             | exact get_map (by assumption)
             | assumption
             | exact get_map (at_bang (by omega))) (fun _ => rfl)) rfl ?_
           | refine dly rfl rfl rfl (lop_load_ow (by
            first
             | exact W rfl id
             | exact E rfl) rfl sgT (fun hc => by
            first
             | rfl
             | exact get_map (by assumption)
             | assumption
             | exact get_map (at_bang (by omega))) (fun _ => rfl)) rfl ?_)
        | refine dlg rfl rfl rfl (lop_load_el (by
           first
            | exact W rfl (by
            first
             | exact id
             | simp)
            | exact E rfl) rfl (fun hc => by
           first
            | rfl
            | exact get_map (by assumption)
            | assumption
            | exact get_map (at_bang (by (try simp at hc) <;> omega))) (fun _ => rfl)) rfl ?_
        | refine dlg rfl rfl rfl (lop_load_ow (by
           first
            | exact W rfl (by
            first
             | exact id
             | simp)
            | exact E rfl) rfl sgT (fun hc => by
           first
            | rfl
            | exact get_map (by assumption)
            | assumption
            | exact get_map (at_bang (by (try simp at hc) <;> omega))) (fun _ => rfl)) rfl ?_
        | refine dlw rfl rfl rfl (lop_load_el (by
           first
            | exact W rfl (by
            first
             | exact id
             | simp)
            | exact E rfl) rfl (fun hc => by
           first
            | rfl
            | exact get_map (by assumption)
            | assumption
            | exact get_map (at_bang (by (try simp at hc) <;> omega))) (fun _ => rfl)) rfl ?_
        | refine dlw rfl rfl rfl (lop_load_ow (by
           first
            | exact W rfl (by
            first
             | exact id
             | simp)
            | exact E rfl) rfl sgT (fun hc => by
           first
            | rfl
            | exact get_map (by assumption)
            | assumption
            | exact get_map (at_bang (by (try simp at hc) <;> omega))) (fun _ => rfl)) rfl ?_
        | refine dlw rfl rfl rfl (lop_no (v := .bool false)) rfl ?_
      first | refine dln rfl rfl rfl rfl rfl ?_ | (refine dly rfl rfl rfl (lop_leq (by first | exact W rfl id | exact E rfl) (by first | exact W rfl id | exact E rfl)) rfl ?_) | refine dlg rfl rfl rfl (lop_leq (by first | exact W rfl (by first | exact id | simp) | exact E rfl) (by first | exact W rfl (by first | exact id | simp) | exact E rfl)) rfl ?_ | refine dlw rfl rfl rfl (lop_leq (by first | exact W rfl (by first | exact id | simp) | exact E rfl) (by first | exact W rfl (by first | exact id | simp) | exact E rfl)) rfl ?_ | refine dlw rfl rfl rfl (lop_no (v := .bool false)) rfl ?_
      first | refine dln rfl rfl rfl rfl rfl ?_ | (first | refine dly rfl rfl rfl (lop_pick_t (by first | exact W rfl id | exact E rfl) (by first | exact W rfl (by simp) | exact E rfl)) rfl ?_ | refine dly rfl rfl rfl (lop_pick_f (by first | exact W rfl id | exact E rfl) (E rfl)) rfl ?_ | refine dly rfl rfl rfl (lop_pick (by first | exact W rfl id | exact E rfl) (by first | exact W rfl (by simp) | exact E rfl) (E rfl)) rfl ?_) | refine dlg rfl rfl rfl (lop_pick_t (by first | exact W rfl id | exact E rfl) (by first | exact W rfl (by simp) | exact E rfl)) rfl ?_ | refine dlg rfl rfl rfl (lop_pick_f (by first | exact W rfl id | exact E rfl) (E rfl)) rfl ?_ | refine dlg rfl rfl rfl (lop_pick (by first | exact W rfl id | exact E rfl) (by first | exact W rfl (by simp) | exact E rfl) (E rfl)) rfl ?_
      refine z172 ?_
      refine deT ?_
      (refine ctlT ?_)
      refine rgT ?_
      refine lo (lop_move (E rfl)) rfl ?_
      refine lo (lop_move (E rfl)) rfl ?_
      refine lo (lop_move (E rfl)) rfl ?_
      refine z15 ?_
      refine z117 ?_
      refine z16 ?_
      refine z19 ?_
      refine cw [] Try.call6 (code_targets (B.map insO) (by simp; omega) (b.en - 1)) rfl argsleT stleT ?_
      rintro _ σ' ⟨q13, rfl, rfl⟩ h181
      replace h181 := cnewT h181; (repeat (rcases h181 with ⟨_, h181⟩))
      rw [opsOf_insO]
      (apply rs_sto; (exact nflT))
      refine lo (lop_assign (E rfl)) rfl ?_
      refine leT ?_
      (refine ctlT ?_)
      refine fzvs (j := 13) rfl sdelT (bor_own sgT (by simp)) ?_
      obtain ha1 | ⟨p, w, hp, ha1, hw, hw1⟩ | ⟨p, hp, ha1, hw1, t, ht⟩ := shp_at hS ho0 hbl hb
      · refine rgD [(0, true), (1, true), (2, true), (3, true), (4, true), (5, true), (6, true), (7, true), (8, true), (9, true), (10, true), (11, true), (12, true), (13, true), (14, true), (15, true), (16, true), (17, true), (18, true), (19, true), (20, true), (21, true), (22, true), (23, true), (24, true), (25, true), (26, true), (27, true), (28, true), (29, true), (30, true), (31, true), (32, true), (33, true), (34, true), (35, true), (36, true), (37, true), (38, true), (39, true), (40, true)] ?_
        refine dlo rfl (lop_move (E rfl)) rfl ?_
        refine dlo rfl (lop_move (E rfl)) rfl ?_
        refine z56 ?_
        refine z161 ?_
        refine z57 ?_
        refine z82 ?_
        refine dlo rfl (lop_move (E rfl)) rfl ?_
        refine dlo rfl (lop_move (E rfl)) rfl ?_
        refine z56 ?_
        refine z161 ?_
        refine z57 ?_
        refine dlo rfl (lop_gtr (E rfl) (E rfl)) rfl ?_
        rw [show decide ((b.at_ : Int) < b.en - 1) = false from decide_eq_false (by omega)]
        refine dlo rfl (lop_move (E rfl)) rfl ?_
        refine z156 ?_
        refine z156 ?_
        refine z156 ?_
        refine z157 ?_
        refine z170 ?_
        refine z158 ?_
        first | refine dln rfl rfl rfl rfl rfl ?_ | (first | refine dly rfl rfl rfl (lop_sub64 (by first | exact W rfl id | exact E rfl) (E rfl) (by omega) (by omega)) rfl ?_ | refine dly rfl rfl rfl (lop_sub (by first | exact W rfl id | exact E rfl) (E rfl)) rfl ?_) | refine dlg rfl rfl rfl (lop_sub64 (by first | exact W rfl id | exact E rfl) (E rfl) (by omega) (by omega)) rfl ?_ | refine dlg rfl rfl rfl (lop_sub64c (by first | exact W rfl id | exact E rfl) (E rfl) (fun hc => by simp at hc <;> first | omega | (have hov := hov hc; omega))) rfl ?_ | refine dlg rfl rfl rfl (lop_sub (by first | exact W rfl id | exact E rfl) (E rfl)) rfl ?_
        refine z157 ?_
        refine z170 ?_
        refine z158 ?_
        first | refine dln rfl rfl rfl rfl rfl ?_ | (refine dly rfl rfl rfl (lop_eql (by first | exact W rfl id | exact E rfl) (E rfl)) rfl ?_) | refine dlg rfl rfl rfl (lop_eql (by first | exact W rfl id | exact E rfl) (E rfl)) rfl ?_
        refine z160 ?_
        refine dlo rfl (lop_move (E rfl)) rfl ?_
        refine z156 ?_
        first | refine dln rfl rfl rfl rfl rfl ?_ | (first | refine dly rfl rfl rfl (lop_len_map (by first | exact W rfl id | exact E rfl)) rfl ?_ | refine dly rfl rfl rfl (lop_len_ro (by first | exact W rfl id | exact E rfl)) rfl ?_ | refine dly rfl rfl rfl (lop_len_own (by first | exact W rfl id | exact E rfl)) rfl ?_) | refine dlg rfl rfl rfl (lop_len_map (by first | exact W rfl id | exact E rfl)) rfl ?_ | refine dlg rfl rfl rfl (lop_len_ro (by first | exact W rfl id | exact E rfl)) rfl ?_ | refine dlg rfl rfl rfl (lop_len_own (by first | exact W rfl id | exact E rfl)) rfl ?_
        first | refine dln rfl rfl rfl rfl rfl ?_ | (refine dly rfl rfl rfl (lop_eql (by first | exact W rfl id | exact E rfl) (E rfl)) rfl ?_) | refine dlg rfl rfl rfl (lop_eql (by first | exact W rfl id | exact E rfl) (E rfl)) rfl ?_
        first | refine dln rfl rfl rfl rfl rfl ?_ | (refine dly rfl rfl rfl (lop_move (by first | exact W rfl id | exact E rfl)) rfl ?_) | refine dlg rfl rfl rfl (lop_move (by first | exact W rfl id | exact E rfl)) rfl ?_
        first | refine dln rfl rfl rfl rfl rfl ?_ | (refine dly rfl rfl rfl (lop_move (E rfl)) rfl ?_) | refine dlg rfl rfl rfl (lop_move (E rfl)) rfl ?_ | refine dlw rfl rfl rfl (lop_move (E rfl)) rfl ?_ | refine dlw rfl rfl rfl (lop_no (v := .bool false)) rfl ?_
        first
          | refine dln rfl rfl rfl rfl rfl ?_
          | (
            first
             | refine dly rfl rfl rfl (lop_index_ro (by
              first
               | exact W rfl id
               | exact E rfl) (E rfl) (fun hc => by (simp only [List.length_map]; omega))) rfl ?_
             | refine dly rfl rfl rfl (lop_index_own0 (by
              first
               | exact W rfl id
               | exact E rfl) sgT (E rfl) (fun hc => by omega)) rfl ?_
             | refine dly rfl rfl rfl (lop_index_own (by
              first
               | exact W rfl id
               | exact E rfl) sgT (E rfl) (fun hc => by omega)) rfl ?_)
          | refine dlg rfl rfl rfl (lop_index_ro (by
             first
              | exact W rfl (by
              first
               | exact id
               | simp)
              | exact E rfl) (E rfl) (fun hc => by (try simp at hc) <;> (simp only [List.length_map]; omega))) rfl ?_
          | refine dlg rfl rfl rfl (lop_index_own0 (by
             first
              | exact W rfl (by
              first
               | exact id
               | simp)
              | exact E rfl) sgT (E rfl) (fun hc => by (try simp at hc) <;> omega)) rfl ?_
          | refine dlg rfl rfl rfl (lop_index_own (by
             first
              | exact W rfl (by
              first
               | exact id
               | simp)
              | exact E rfl) sgT (E rfl) (fun hc => by (try simp at hc) <;> omega)) rfl ?_
          | refine dlw rfl rfl rfl (lop_index_ro (by
             first
              | exact W rfl (by
              first
               | exact id
               | simp)
              | exact E rfl) (E rfl) (fun hc => by (try simp at hc) <;> (simp only [List.length_map]; omega))) rfl ?_
          | refine dlw rfl rfl rfl (lop_index_own0 (by
             first
              | exact W rfl (by
              first
               | exact id
               | simp)
              | exact E rfl) sgT (E rfl) (fun hc => by (try simp at hc) <;> omega)) rfl ?_
          | refine dlw rfl rfl rfl (lop_index_own (by
             first
              | exact W rfl (by
              first
               | exact id
               | simp)
              | exact E rfl) sgT (E rfl) (fun hc => by (try simp at hc) <;> omega)) rfl ?_
          | refine dlw rfl rfl rfl (lop_no (v := .bool false)) rfl ?_
        first
          | refine dln rfl rfl rfl rfl rfl ?_
          | (
            first
             | refine dly rfl rfl rfl (lop_load_el (by
              first
               | exact W rfl id
               | exact E rfl) rfl (fun hc => by
              first
               | rfl
               | exact get_map (by assumption)
               | assumption
               | exact get_map (at_bang (by omega))) (fun _ => rfl)) rfl ?_
             | refine dly rfl rfl rfl (lop_load_ow (by
              first
               | exact W rfl id
               | exact E rfl) rfl sgT (fun hc => by
              first
               | rfl
               | exact get_map (by assumption)
               | assumption
               | exact get_map (at_bang (by omega))) (fun _ => rfl)) rfl ?_)
          | refine dlg rfl rfl rfl (lop_load_el (by
             first
              | exact W rfl (by
              first
               | exact id
               | simp)
              | exact E rfl) rfl (fun hc => by
             first
              | rfl
              | exact get_map (by assumption)
              | assumption
              | exact get_map (at_bang (by (try simp at hc) <;> omega))) (fun _ => rfl)) rfl ?_
          | refine dlg rfl rfl rfl (lop_load_ow (by
             first
              | exact W rfl (by
              first
               | exact id
               | simp)
              | exact E rfl) rfl sgT (fun hc => by
             first
              | rfl
              | exact get_map (by assumption)
              | assumption
              | exact get_map (at_bang (by (try simp at hc) <;> omega))) (fun _ => rfl)) rfl ?_
          | refine dlw rfl rfl rfl (lop_load_el (by
             first
              | exact W rfl (by
              first
               | exact id
               | simp)
              | exact E rfl) rfl (fun hc => by
             first
              | rfl
              | exact get_map (by assumption)
              | assumption
              | exact get_map (at_bang (by (try simp at hc) <;> omega))) (fun _ => rfl)) rfl ?_
          | refine dlw rfl rfl rfl (lop_load_ow (by
             first
              | exact W rfl (by
              first
               | exact id
               | simp)
              | exact E rfl) rfl sgT (fun hc => by
             first
              | rfl
              | exact get_map (by assumption)
              | assumption
              | exact get_map (at_bang (by (try simp at hc) <;> omega))) (fun _ => rfl)) rfl ?_
          | refine dlw rfl rfl rfl (lop_no (v := .bool false)) rfl ?_
        first | refine dln rfl rfl rfl rfl rfl ?_ | (refine dly rfl rfl rfl (lop_move (E rfl)) rfl ?_) | refine dlg rfl rfl rfl (lop_move (E rfl)) rfl ?_ | refine dlw rfl rfl rfl (lop_move (E rfl)) rfl ?_ | refine dlw rfl rfl rfl (lop_no (v := .bool false)) rfl ?_
        first | refine dln rfl rfl rfl rfl rfl ?_ | (refine dly rfl rfl rfl (lop_move (E rfl)) rfl ?_) | refine dlg rfl rfl rfl (lop_move (E rfl)) rfl ?_ | refine dlw rfl rfl rfl (lop_move (E rfl)) rfl ?_ | refine dlw rfl rfl rfl (lop_no (v := .bool false)) rfl ?_
        first
          | refine dln rfl rfl rfl rfl rfl ?_
          | (
            first
             | refine dly rfl rfl rfl (lop_index_ro (by
              first
               | exact W rfl id
               | exact E rfl) (by
              first
               | exact W rfl id
               | exact E rfl) (fun hc => by (simp only [List.length_map]; omega))) rfl ?_
             | refine dly rfl rfl rfl (lop_index_own0 (by
              first
               | exact W rfl id
               | exact E rfl) sgT (by
              first
               | exact W rfl id
               | exact E rfl) (fun hc => by omega)) rfl ?_
             | refine dly rfl rfl rfl (lop_index_own (by
              first
               | exact W rfl id
               | exact E rfl) sgT (by
              first
               | exact W rfl id
               | exact E rfl) (fun hc => by omega)) rfl ?_)
          | refine dlg rfl rfl rfl (lop_index_ro (by
             first
              | exact W rfl (by
              first
               | exact id
               | simp)
              | exact E rfl) (by
             first
              | exact W rfl (by
              first
               | exact id
               | simp)
              | exact E rfl) (fun hc => by (try simp at hc) <;> (simp only [List.length_map]; omega))) rfl ?_
          | refine dlg rfl rfl rfl (lop_index_own0 (by
             first
              | exact W rfl (by
              first
               | exact id
               | simp)
              | exact E rfl) sgT (by
             first
              | exact W rfl (by
              first
               | exact id
               | simp)
              | exact E rfl) (fun hc => by (try simp at hc) <;> omega)) rfl ?_
          | refine dlg rfl rfl rfl (lop_index_own (by
             first
              | exact W rfl (by
              first
               | exact id
               | simp)
              | exact E rfl) sgT (by
             first
              | exact W rfl (by
              first
               | exact id
               | simp)
              | exact E rfl) (fun hc => by (try simp at hc) <;> omega)) rfl ?_
          | refine dlw rfl rfl rfl (lop_index_ro (by
             first
              | exact W rfl (by
              first
               | exact id
               | simp)
              | exact E rfl) (by
             first
              | exact W rfl (by
              first
               | exact id
               | simp)
              | exact E rfl) (fun hc => by (try simp at hc) <;> (simp only [List.length_map]; omega))) rfl ?_
          | refine dlw rfl rfl rfl (lop_index_own0 (by
             first
              | exact W rfl (by
              first
               | exact id
               | simp)
              | exact E rfl) sgT (by
             first
              | exact W rfl (by
              first
               | exact id
               | simp)
              | exact E rfl) (fun hc => by (try simp at hc) <;> omega)) rfl ?_
          | refine dlw rfl rfl rfl (lop_index_own (by
             first
              | exact W rfl (by
              first
               | exact id
               | simp)
              | exact E rfl) sgT (by
             first
              | exact W rfl (by
              first
               | exact id
               | simp)
              | exact E rfl) (fun hc => by (try simp at hc) <;> omega)) rfl ?_
          | refine dlw rfl rfl rfl (lop_no (v := .bool false)) rfl ?_
        first | refine dln rfl rfl rfl rfl rfl ?_ | (first | refine dly rfl rfl rfl (lop_field_el (by first | exact W rfl id | exact E rfl) rfl (by decide)) rfl ?_ | refine dly rfl rfl rfl (lop_field_ow (by first | exact W rfl id | exact E rfl) rfl (by decide)) rfl ?_) | refine dlg rfl rfl rfl (lop_field_el (by first | exact W rfl (by first | exact id | simp) | exact E rfl) rfl (by decide)) rfl ?_ | refine dlg rfl rfl rfl (lop_field_ow (by first | exact W rfl (by first | exact id | simp) | exact E rfl) rfl (by decide)) rfl ?_ | refine dlw rfl rfl rfl (lop_field_el (by first | exact W rfl (by first | exact id | simp) | exact E rfl) rfl (by decide)) rfl ?_ | refine dlw rfl rfl rfl (lop_field_ow (by first | exact W rfl (by first | exact id | simp) | exact E rfl) rfl (by decide)) rfl ?_ | refine dlw rfl rfl rfl (lop_no (v := .bool false)) rfl ?_
        first
          | refine dln rfl rfl rfl rfl rfl ?_
          | (
            first
             | refine dly rfl rfl rfl (lop_load_el (by
              first
               | exact W rfl id
               | exact E rfl) rfl (fun hc => by
              first
               | rfl
               | exact get_map (by assumption)
               | assumption
               | exact get_map (at_bang (by omega))) (fun _ => rfl)) rfl ?_
             | refine dly rfl rfl rfl (lop_load_ow (by
              first
               | exact W rfl id
               | exact E rfl) rfl sgT (fun hc => by
              first
               | rfl
               | exact get_map (by assumption)
               | assumption
               | exact get_map (at_bang (by omega))) (fun _ => rfl)) rfl ?_)
          | refine dlg rfl rfl rfl (lop_load_el (by
             first
              | exact W rfl (by
              first
               | exact id
               | simp)
              | exact E rfl) rfl (fun hc => by
             first
              | rfl
              | exact get_map (by assumption)
              | assumption
              | exact get_map (at_bang (by (try simp at hc) <;> omega))) (fun _ => rfl)) rfl ?_
          | refine dlg rfl rfl rfl (lop_load_ow (by
             first
              | exact W rfl (by
              first
               | exact id
               | simp)
              | exact E rfl) rfl sgT (fun hc => by
             first
              | rfl
              | exact get_map (by assumption)
              | assumption
              | exact get_map (at_bang (by (try simp at hc) <;> omega))) (fun _ => rfl)) rfl ?_
          | refine dlw rfl rfl rfl (lop_load_el (by
             first
              | exact W rfl (by
              first
               | exact id
               | simp)
              | exact E rfl) rfl (fun hc => by
             first
              | rfl
              | exact get_map (by assumption)
              | assumption
              | exact get_map (at_bang (by (try simp at hc) <;> omega))) (fun _ => rfl)) rfl ?_
          | refine dlw rfl rfl rfl (lop_load_ow (by
             first
              | exact W rfl (by
              first
               | exact id
               | simp)
              | exact E rfl) rfl sgT (fun hc => by
             first
              | rfl
              | exact get_map (by assumption)
              | assumption
              | exact get_map (at_bang (by (try simp at hc) <;> omega))) (fun _ => rfl)) rfl ?_
          | refine dlw rfl rfl rfl (lop_no (v := .bool false)) rfl ?_
        first | refine dln rfl rfl rfl rfl rfl ?_ | (refine dly rfl rfl rfl (lop_neq (by first | exact W rfl id | exact E rfl) (by first | exact W rfl id | exact E rfl)) rfl ?_) | refine dlg rfl rfl rfl (lop_neq (by first | exact W rfl (by first | exact id | simp) | exact E rfl) (by first | exact W rfl (by first | exact id | simp) | exact E rfl)) rfl ?_ | refine dlw rfl rfl rfl (lop_neq (by first | exact W rfl (by first | exact id | simp) | exact E rfl) (by first | exact W rfl (by first | exact id | simp) | exact E rfl)) rfl ?_ | refine dlw rfl rfl rfl (lop_no (v := .bool false)) rfl ?_
        first | refine dln rfl rfl rfl rfl rfl ?_ | (first | refine dly rfl rfl rfl (lop_pick_t (by first | exact W rfl id | exact E rfl) (E rfl)) rfl ?_ | refine dly rfl rfl rfl (lop_pick_f (by first | exact W rfl id | exact E rfl) (by first | exact W rfl (by simp) | exact E rfl)) rfl ?_ | refine dly rfl rfl rfl (lop_pick (by first | exact W rfl id | exact E rfl) (E rfl) (by first | exact W rfl (by simp) | exact E rfl)) rfl ?_) | refine dlg rfl rfl rfl (lop_pick_t (by first | exact W rfl id | exact E rfl) (E rfl)) rfl ?_ | refine dlg rfl rfl rfl (lop_pick_f (by first | exact W rfl id | exact E rfl) (by first | exact W rfl (by simp) | exact E rfl)) rfl ?_ | refine dlg rfl rfl rfl (lop_pick (by first | exact W rfl id | exact E rfl) (E rfl) (by first | exact W rfl (by simp) | exact E rfl)) rfl ?_
        refine z160 ?_
        refine deT ?_
        (refine ctlT ?_)
        refine rgT ?_
        refine lo (lop_move (E rfl)) rfl ?_
        refine z17 ?_
        refine lo (lop_assign (E rfl)) rfl ?_
        refine leT ?_
        (refine ctlT ?_)
        refine ⟨j + 1, hlt, by show s.all.length - (j + 1) < s.all.length - j; omega, ?_⟩
        (exact sgoT)
      · rw [hp]
        have hw0 : (B.map insO)[p]? = some (insO w) := by rw [List.getElem?_map, hw]; rfl
        have hw2 := nat_at hw0
        have hpl := (List.getElem?_eq_some_iff.1 hw).1
        refine rgD [(0, true), (1, true), (2, true), (3, true), (4, true), (5, true), (6, true), (7, true), (8, true), (9, true), (10, true), (11, true), (12, true), (13, true), (14, true), (15, true), (16, true), (17, true), (18, true), (19, true), (20, true), (21, true), (22, true), (23, true), (24, true), (25, true), (26, true), (27, true), (28, true), (29, true), (30, true), (31, true), (32, true), (33, true), (34, true), (35, true), (36, true), (37, true), (38, true), (39, true), (40, true)] ?_
        refine dlo rfl (lop_move (E rfl)) rfl ?_
        refine dlo rfl (lop_move (E rfl)) rfl ?_
        refine z56 ?_
        refine z161 ?_
        refine z57 ?_
        refine z82 ?_
        rw [hp]
        refine dlo rfl (lop_move (E rfl)) rfl ?_
        refine dlo rfl (lop_move (E rfl)) rfl ?_
        refine z56 ?_
        refine z161 ?_
        refine z57 ?_
        refine dlo rfl (lop_gtr (E rfl) (E rfl)) rfl ?_
        rw [show decide ((b.at_ : Int) < (p : Int)) = true from decide_eq_true ha1]
        refine dlo rfl (lop_move (E rfl)) rfl ?_
        refine z156 ?_
        refine z156 ?_
        refine z156 ?_
        refine z157 ?_
        refine z170 ?_
        refine z158 ?_
        first | refine dln rfl rfl rfl rfl rfl ?_ | (first | refine dly rfl rfl rfl (lop_sub64 (by first | exact W rfl id | exact E rfl) (E rfl) (by omega) (by omega)) rfl ?_ | refine dly rfl rfl rfl (lop_sub (by first | exact W rfl id | exact E rfl) (E rfl)) rfl ?_) | refine dlg rfl rfl rfl (lop_sub64 (by first | exact W rfl id | exact E rfl) (E rfl) (by omega) (by omega)) rfl ?_ | refine dlg rfl rfl rfl (lop_sub64c (by first | exact W rfl id | exact E rfl) (E rfl) (fun hc => by simp at hc <;> first | omega | (have hov := hov hc; omega))) rfl ?_ | refine dlg rfl rfl rfl (lop_sub (by first | exact W rfl id | exact E rfl) (E rfl)) rfl ?_
        rw [hp]
        refine z157 ?_
        refine z170 ?_
        refine z158 ?_
        first | refine dln rfl rfl rfl rfl rfl ?_ | (refine dly rfl rfl rfl (lop_eql (by first | exact W rfl id | exact E rfl) (E rfl)) rfl ?_) | refine dlg rfl rfl rfl (lop_eql (by first | exact W rfl id | exact E rfl) (E rfl)) rfl ?_
        rw [show ((insO w).op == 1) = false from beq_eq_false_iff_ne.2 hw1]
        refine z160 ?_
        refine dlo rfl (lop_move (E rfl)) rfl ?_
        refine z156 ?_
        first | refine dln rfl rfl rfl rfl rfl ?_ | (first | refine dly rfl rfl rfl (lop_len_map (by first | exact W rfl id | exact E rfl)) rfl ?_ | refine dly rfl rfl rfl (lop_len_ro (by first | exact W rfl id | exact E rfl)) rfl ?_ | refine dly rfl rfl rfl (lop_len_own (by first | exact W rfl id | exact E rfl)) rfl ?_) | refine dlg rfl rfl rfl (lop_len_map (by first | exact W rfl id | exact E rfl)) rfl ?_ | refine dlg rfl rfl rfl (lop_len_ro (by first | exact W rfl id | exact E rfl)) rfl ?_ | refine dlg rfl rfl rfl (lop_len_own (by first | exact W rfl id | exact E rfl)) rfl ?_
        first | refine dln rfl rfl rfl rfl rfl ?_ | (refine dly rfl rfl rfl (lop_eql (by first | exact W rfl id | exact E rfl) (E rfl)) rfl ?_) | refine dlg rfl rfl rfl (lop_eql (by first | exact W rfl id | exact E rfl) (E rfl)) rfl ?_
        first | refine dln rfl rfl rfl rfl rfl ?_ | (refine dly rfl rfl rfl (lop_move (by first | exact W rfl id | exact E rfl)) rfl ?_) | refine dlg rfl rfl rfl (lop_move (by first | exact W rfl id | exact E rfl)) rfl ?_
        first | refine dln rfl rfl rfl rfl rfl ?_ | (refine dly rfl rfl rfl (lop_move (E rfl)) rfl ?_) | refine dlg rfl rfl rfl (lop_move (E rfl)) rfl ?_ | refine dlw rfl rfl rfl (lop_move (E rfl)) rfl ?_ | refine dlw rfl rfl rfl (lop_no (v := .bool false)) rfl ?_
        first
          | refine dln rfl rfl rfl rfl rfl ?_
          | (
            first
             | refine dly rfl rfl rfl (lop_index_ro (by
              first
               | exact W rfl id
               | exact E rfl) (E rfl) (fun hc => by (simp only [List.length_map]; omega))) rfl ?_
             | refine dly rfl rfl rfl (lop_index_own0 (by
              first
               | exact W rfl id
               | exact E rfl) sgT (E rfl) (fun hc => by omega)) rfl ?_
             | refine dly rfl rfl rfl (lop_index_own (by
              first
               | exact W rfl id
               | exact E rfl) sgT (E rfl) (fun hc => by omega)) rfl ?_)
          | refine dlg rfl rfl rfl (lop_index_ro (by
             first
              | exact W rfl (by
              first
               | exact id
               | simp)
              | exact E rfl) (E rfl) (fun hc => by (try simp at hc) <;> (simp only [List.length_map]; omega))) rfl ?_
          | refine dlg rfl rfl rfl (lop_index_own0 (by
             first
              | exact W rfl (by
              first
               | exact id
               | simp)
              | exact E rfl) sgT (E rfl) (fun hc => by (try simp at hc) <;> omega)) rfl ?_
          | refine dlg rfl rfl rfl (lop_index_own (by
             first
              | exact W rfl (by
              first
               | exact id
               | simp)
              | exact E rfl) sgT (E rfl) (fun hc => by (try simp at hc) <;> omega)) rfl ?_
          | refine dlw rfl rfl rfl (lop_index_ro (by
             first
              | exact W rfl (by
              first
               | exact id
               | simp)
              | exact E rfl) (E rfl) (fun hc => by (try simp at hc) <;> (simp only [List.length_map]; omega))) rfl ?_
          | refine dlw rfl rfl rfl (lop_index_own0 (by
             first
              | exact W rfl (by
              first
               | exact id
               | simp)
              | exact E rfl) sgT (E rfl) (fun hc => by (try simp at hc) <;> omega)) rfl ?_
          | refine dlw rfl rfl rfl (lop_index_own (by
             first
              | exact W rfl (by
              first
               | exact id
               | simp)
              | exact E rfl) sgT (E rfl) (fun hc => by (try simp at hc) <;> omega)) rfl ?_
          | refine dlw rfl rfl rfl (lop_no (v := .bool false)) rfl ?_
        first
          | refine dln rfl rfl rfl rfl rfl ?_
          | (
            first
             | refine dly rfl rfl rfl (lop_load_el (by
              first
               | exact W rfl id
               | exact E rfl) rfl (fun hc => by
              first
               | rfl
               | exact get_map (by assumption)
               | assumption
               | exact get_map (at_bang (by omega))) (fun _ => rfl)) rfl ?_
             | refine dly rfl rfl rfl (lop_load_ow (by
              first
               | exact W rfl id
               | exact E rfl) rfl sgT (fun hc => by
              first
               | rfl
               | exact get_map (by assumption)
               | assumption
               | exact get_map (at_bang (by omega))) (fun _ => rfl)) rfl ?_)
          | refine dlg rfl rfl rfl (lop_load_el (by
             first
              | exact W rfl (by
              first
               | exact id
               | simp)
              | exact E rfl) rfl (fun hc => by
             first
              | rfl
              | exact get_map (by assumption)
              | assumption
              | exact get_map (at_bang (by (try simp at hc) <;> omega))) (fun _ => rfl)) rfl ?_
          | refine dlg rfl rfl rfl (lop_load_ow (by
             first
              | exact W rfl (by
              first
               | exact id
               | simp)
              | exact E rfl) rfl sgT (fun hc => by
             first
              | rfl
              | exact get_map (by assumption)
              | assumption
              | exact get_map (at_bang (by (try simp at hc) <;> omega))) (fun _ => rfl)) rfl ?_
          | refine dlw rfl rfl rfl (lop_load_el (by
             first
              | exact W rfl (by
              first
               | exact id
               | simp)
              | exact E rfl) rfl (fun hc => by
             first
              | rfl
              | exact get_map (by assumption)
              | assumption
              | exact get_map (at_bang (by (try simp at hc) <;> omega))) (fun _ => rfl)) rfl ?_
          | refine dlw rfl rfl rfl (lop_load_ow (by
             first
              | exact W rfl (by
              first
               | exact id
               | simp)
              | exact E rfl) rfl sgT (fun hc => by
             first
              | rfl
              | exact get_map (by assumption)
              | assumption
              | exact get_map (at_bang (by (try simp at hc) <;> omega))) (fun _ => rfl)) rfl ?_
          | refine dlw rfl rfl rfl (lop_no (v := .bool false)) rfl ?_
        first | refine dln rfl rfl rfl rfl rfl ?_ | (refine dly rfl rfl rfl (lop_move (E rfl)) rfl ?_) | refine dlg rfl rfl rfl (lop_move (E rfl)) rfl ?_ | refine dlw rfl rfl rfl (lop_move (E rfl)) rfl ?_ | refine dlw rfl rfl rfl (lop_no (v := .bool false)) rfl ?_
        first | refine dln rfl rfl rfl rfl rfl ?_ | (refine dly rfl rfl rfl (lop_move (E rfl)) rfl ?_) | refine dlg rfl rfl rfl (lop_move (E rfl)) rfl ?_ | refine dlw rfl rfl rfl (lop_move (E rfl)) rfl ?_ | refine dlw rfl rfl rfl (lop_no (v := .bool false)) rfl ?_
        first
          | refine dln rfl rfl rfl rfl rfl ?_
          | (
            first
             | refine dly rfl rfl rfl (lop_index_ro (by
              first
               | exact W rfl id
               | exact E rfl) (by
              first
               | exact W rfl id
               | exact E rfl) (fun hc => by (simp only [List.length_map]; omega))) rfl ?_
             | refine dly rfl rfl rfl (lop_index_own0 (by
              first
               | exact W rfl id
               | exact E rfl) sgT (by
              first
               | exact W rfl id
               | exact E rfl) (fun hc => by omega)) rfl ?_
             | refine dly rfl rfl rfl (lop_index_own (by
              first
               | exact W rfl id
               | exact E rfl) sgT (by
              first
               | exact W rfl id
               | exact E rfl) (fun hc => by omega)) rfl ?_)
          | refine dlg rfl rfl rfl (lop_index_ro (by
             first
              | exact W rfl (by
              first
               | exact id
               | simp)
              | exact E rfl) (by
             first
              | exact W rfl (by
              first
               | exact id
               | simp)
              | exact E rfl) (fun hc => by (try simp at hc) <;> (simp only [List.length_map]; omega))) rfl ?_
          | refine dlg rfl rfl rfl (lop_index_own0 (by
             first
              | exact W rfl (by
              first
               | exact id
               | simp)
              | exact E rfl) sgT (by
             first
              | exact W rfl (by
              first
               | exact id
               | simp)
              | exact E rfl) (fun hc => by (try simp at hc) <;> omega)) rfl ?_
          | refine dlg rfl rfl rfl (lop_index_own (by
             first
              | exact W rfl (by
              first
               | exact id
               | simp)
              | exact E rfl) sgT (by
             first
              | exact W rfl (by
              first
               | exact id
               | simp)
              | exact E rfl) (fun hc => by (try simp at hc) <;> omega)) rfl ?_
          | refine dlw rfl rfl rfl (lop_index_ro (by
             first
              | exact W rfl (by
              first
               | exact id
               | simp)
              | exact E rfl) (by
             first
              | exact W rfl (by
              first
               | exact id
               | simp)
              | exact E rfl) (fun hc => by (try simp at hc) <;> (simp only [List.length_map]; omega))) rfl ?_
          | refine dlw rfl rfl rfl (lop_index_own0 (by
             first
              | exact W rfl (by
              first
               | exact id
               | simp)
              | exact E rfl) sgT (by
             first
              | exact W rfl (by
              first
               | exact id
               | simp)
              | exact E rfl) (fun hc => by (try simp at hc) <;> omega)) rfl ?_
          | refine dlw rfl rfl rfl (lop_index_own (by
             first
              | exact W rfl (by
              first
               | exact id
               | simp)
              | exact E rfl) sgT (by
             first
              | exact W rfl (by
              first
               | exact id
               | simp)
              | exact E rfl) (fun hc => by (try simp at hc) <;> omega)) rfl ?_
          | refine dlw rfl rfl rfl (lop_no (v := .bool false)) rfl ?_
        first | refine dln rfl rfl rfl rfl rfl ?_ | (first | refine dly rfl rfl rfl (lop_field_el (by first | exact W rfl id | exact E rfl) rfl (by decide)) rfl ?_ | refine dly rfl rfl rfl (lop_field_ow (by first | exact W rfl id | exact E rfl) rfl (by decide)) rfl ?_) | refine dlg rfl rfl rfl (lop_field_el (by first | exact W rfl (by first | exact id | simp) | exact E rfl) rfl (by decide)) rfl ?_ | refine dlg rfl rfl rfl (lop_field_ow (by first | exact W rfl (by first | exact id | simp) | exact E rfl) rfl (by decide)) rfl ?_ | refine dlw rfl rfl rfl (lop_field_el (by first | exact W rfl (by first | exact id | simp) | exact E rfl) rfl (by decide)) rfl ?_ | refine dlw rfl rfl rfl (lop_field_ow (by first | exact W rfl (by first | exact id | simp) | exact E rfl) rfl (by decide)) rfl ?_ | refine dlw rfl rfl rfl (lop_no (v := .bool false)) rfl ?_
        first
          | refine dln rfl rfl rfl rfl rfl ?_
          | (
            first
             | refine dly rfl rfl rfl (lop_load_el (by
              first
               | exact W rfl id
               | exact E rfl) rfl (fun hc => by
              first
               | rfl
               | exact get_map (by assumption)
               | assumption
               | exact get_map (at_bang (by omega))) (fun _ => rfl)) rfl ?_
             | refine dly rfl rfl rfl (lop_load_ow (by
              first
               | exact W rfl id
               | exact E rfl) rfl sgT (fun hc => by
              first
               | rfl
               | exact get_map (by assumption)
               | assumption
               | exact get_map (at_bang (by omega))) (fun _ => rfl)) rfl ?_)
          | refine dlg rfl rfl rfl (lop_load_el (by
             first
              | exact W rfl (by
              first
               | exact id
               | simp)
              | exact E rfl) rfl (fun hc => by
             first
              | rfl
              | exact get_map (by assumption)
              | assumption
              | exact get_map (at_bang (by (try simp at hc) <;> omega))) (fun _ => rfl)) rfl ?_
          | refine dlg rfl rfl rfl (lop_load_ow (by
             first
              | exact W rfl (by
              first
               | exact id
               | simp)
              | exact E rfl) rfl sgT (fun hc => by
             first
              | rfl
              | exact get_map (by assumption)
              | assumption
              | exact get_map (at_bang (by (try simp at hc) <;> omega))) (fun _ => rfl)) rfl ?_
          | refine dlw rfl rfl rfl (lop_load_el (by
             first
              | exact W rfl (by
              first
               | exact id
               | simp)
              | exact E rfl) rfl (fun hc => by
             first
              | rfl
              | exact get_map (by assumption)
              | assumption
              | exact get_map (at_bang (by (try simp at hc) <;> omega))) (fun _ => rfl)) rfl ?_
          | refine dlw rfl rfl rfl (lop_load_ow (by
             first
              | exact W rfl (by
              first
               | exact id
               | simp)
              | exact E rfl) rfl sgT (fun hc => by
             first
              | rfl
              | exact get_map (by assumption)
              | assumption
              | exact get_map (at_bang (by (try simp at hc) <;> omega))) (fun _ => rfl)) rfl ?_
          | refine dlw rfl rfl rfl (lop_no (v := .bool false)) rfl ?_
        first | refine dln rfl rfl rfl rfl rfl ?_ | (refine dly rfl rfl rfl (lop_neq (by first | exact W rfl id | exact E rfl) (by first | exact W rfl id | exact E rfl)) rfl ?_) | refine dlg rfl rfl rfl (lop_neq (by first | exact W rfl (by first | exact id | simp) | exact E rfl) (by first | exact W rfl (by first | exact id | simp) | exact E rfl)) rfl ?_ | refine dlw rfl rfl rfl (lop_neq (by first | exact W rfl (by first | exact id | simp) | exact E rfl) (by first | exact W rfl (by first | exact id | simp) | exact E rfl)) rfl ?_ | refine dlw rfl rfl rfl (lop_no (v := .bool false)) rfl ?_
        first | refine dln rfl rfl rfl rfl rfl ?_ | (first | refine dly rfl rfl rfl (lop_pick_t (by first | exact W rfl id | exact E rfl) (E rfl)) rfl ?_ | refine dly rfl rfl rfl (lop_pick_f (by first | exact W rfl id | exact E rfl) (by first | exact W rfl (by simp) | exact E rfl)) rfl ?_ | refine dly rfl rfl rfl (lop_pick (by first | exact W rfl id | exact E rfl) (E rfl) (by first | exact W rfl (by simp) | exact E rfl)) rfl ?_) | refine dlg rfl rfl rfl (lop_pick_t (by first | exact W rfl id | exact E rfl) (E rfl)) rfl ?_ | refine dlg rfl rfl rfl (lop_pick_f (by first | exact W rfl id | exact E rfl) (by first | exact W rfl (by simp) | exact E rfl)) rfl ?_ | refine dlg rfl rfl rfl (lop_pick (by first | exact W rfl id | exact E rfl) (E rfl) (by first | exact W rfl (by simp) | exact E rfl)) rfl ?_
        refine z160 ?_
        refine deT ?_
        (refine ctlT ?_)
        refine rgT ?_
        refine lo (lop_move (E rfl)) rfl ?_
        refine z17 ?_
        refine lo (lop_assign (E rfl)) rfl ?_
        refine leT ?_
        (refine ctlT ?_)
        refine ⟨j + 1, hlt, by show s.all.length - (j + 1) < s.all.length - j; omega, ?_⟩
        (exact sgoT)
      · rw [hp, ht]
        have hw0 : (B.map insO)[p]? = some (insO 1) := by rw [List.getElem?_map, hw1]; rfl
        have hw2 := nat_at hw0
        have hpl := (List.getElem?_eq_some_iff.1 hw1).1
        have htl : ((b.at_ : Int) :: t).length = t.length + 1 := rfl
        have ht0 : ((b.at_ : Int) :: t)[(0 : Int).toNat]? = some (b.at_ : Int) := rfl
        refine rgD [(0, true), (1, true), (2, true), (3, true), (4, true), (5, true), (6, true), (7, true), (8, true), (9, true), (10, true), (11, true), (12, true), (13, true), (14, true), (15, true), (16, true), (17, true), (18, true), (19, true), (20, true), (21, true), (22, true), (23, true), (24, true), (25, true), (26, true), (27, true), (28, true), (29, true), (30, true), (31, true), (32, true), (33, true), (34, true), (35, true), (36, true), (37, true), (38, true), (39, true), (40, true)] ?_
        refine dlo rfl (lop_move (E rfl)) rfl ?_
        refine dlo rfl (lop_move (E rfl)) rfl ?_
        refine z56 ?_
        refine z161 ?_
        refine z57 ?_
        refine z82 ?_
        rw [hp]
        refine dlo rfl (lop_move (E rfl)) rfl ?_
        refine dlo rfl (lop_move (E rfl)) rfl ?_
        refine z56 ?_
        refine z161 ?_
        refine z57 ?_
        refine dlo rfl (lop_gtr (E rfl) (E rfl)) rfl ?_
        rw [show decide ((b.at_ : Int) < (p : Int)) = true from decide_eq_true ha1]
        refine dlo rfl (lop_move (E rfl)) rfl ?_
        refine z156 ?_
        refine z156 ?_
        refine z156 ?_
        refine z157 ?_
        refine z170 ?_
        refine z158 ?_
        first | refine dln rfl rfl rfl rfl rfl ?_ | (first | refine dly rfl rfl rfl (lop_sub64 (by first | exact W rfl id | exact E rfl) (E rfl) (by omega) (by omega)) rfl ?_ | refine dly rfl rfl rfl (lop_sub (by first | exact W rfl id | exact E rfl) (E rfl)) rfl ?_) | refine dlg rfl rfl rfl (lop_sub64 (by first | exact W rfl id | exact E rfl) (E rfl) (by omega) (by omega)) rfl ?_ | refine dlg rfl rfl rfl (lop_sub64c (by first | exact W rfl id | exact E rfl) (E rfl) (fun hc => by simp at hc <;> first | omega | (have hov := hov hc; omega))) rfl ?_ | refine dlg rfl rfl rfl (lop_sub (by first | exact W rfl id | exact E rfl) (E rfl)) rfl ?_
        rw [hp]
        refine z157 ?_
        refine z170 ?_
        refine z158 ?_
        first | refine dln rfl rfl rfl rfl rfl ?_ | (refine dly rfl rfl rfl (lop_eql (by first | exact W rfl id | exact E rfl) (E rfl)) rfl ?_) | refine dlg rfl rfl rfl (lop_eql (by first | exact W rfl id | exact E rfl) (E rfl)) rfl ?_
        rw [show ((insO 1).op == 1) = true from rfl]
        refine z160 ?_
        refine dlo rfl (lop_move (E rfl)) rfl ?_
        refine z156 ?_
        first | refine dln rfl rfl rfl rfl rfl ?_ | (first | refine dly rfl rfl rfl (lop_len_map (by first | exact W rfl id | exact E rfl)) rfl ?_ | refine dly rfl rfl rfl (lop_len_ro (by first | exact W rfl id | exact E rfl)) rfl ?_ | refine dly rfl rfl rfl (lop_len_own (by first | exact W rfl id | exact E rfl)) rfl ?_) | refine dlg rfl rfl rfl (lop_len_map (by first | exact W rfl id | exact E rfl)) rfl ?_ | refine dlg rfl rfl rfl (lop_len_ro (by first | exact W rfl id | exact E rfl)) rfl ?_ | refine dlg rfl rfl rfl (lop_len_own (by first | exact W rfl id | exact E rfl)) rfl ?_
        first | refine dln rfl rfl rfl rfl rfl ?_ | (refine dly rfl rfl rfl (lop_eql (by first | exact W rfl id | exact E rfl) (E rfl)) rfl ?_) | refine dlg rfl rfl rfl (lop_eql (by first | exact W rfl id | exact E rfl) (E rfl)) rfl ?_
        rw [show ((((b.at_ : Int) :: t).length : Int) == 0) = false from beq_eq_false_iff_ne.2 (by omega)]
        first | refine dln rfl rfl rfl rfl rfl ?_ | (refine dly rfl rfl rfl (lop_move (by first | exact W rfl id | exact E rfl)) rfl ?_) | refine dlg rfl rfl rfl (lop_move (by first | exact W rfl id | exact E rfl)) rfl ?_
        first | refine dln rfl rfl rfl rfl rfl ?_ | (refine dly rfl rfl rfl (lop_move (E rfl)) rfl ?_) | refine dlg rfl rfl rfl (lop_move (E rfl)) rfl ?_ | refine dlw rfl rfl rfl (lop_move (E rfl)) rfl ?_ | refine dlw rfl rfl rfl (lop_no (v := .bool false)) rfl ?_
        first
          | refine dln rfl rfl rfl rfl rfl ?_
          | (
            first
             | refine dly rfl rfl rfl (lop_index_ro (by
              first
               | exact W rfl id
               | exact E rfl) (E rfl) (fun hc => by (simp only [List.length_map]; omega))) rfl ?_
             | refine dly rfl rfl rfl (lop_index_own0 (by
              first
               | exact W rfl id
               | exact E rfl) sgT (E rfl) (fun hc => by omega)) rfl ?_
             | refine dly rfl rfl rfl (lop_index_own (by
              first
               | exact W rfl id
               | exact E rfl) sgT (E rfl) (fun hc => by omega)) rfl ?_)
          | refine dlg rfl rfl rfl (lop_index_ro (by
             first
              | exact W rfl (by
              first
               | exact id
               | simp)
              | exact E rfl) (E rfl) (fun hc => by (try simp at hc) <;> (simp only [List.length_map]; omega))) rfl ?_
          | refine dlg rfl rfl rfl (lop_index_own0 (by
             first
              | exact W rfl (by
              first
               | exact id
               | simp)
              | exact E rfl) sgT (E rfl) (fun hc => by (try simp at hc) <;> omega)) rfl ?_
          | refine dlg rfl rfl rfl (lop_index_own (by
             first
              | exact W rfl (by
              first
               | exact id
               | simp)
              | exact E rfl) sgT (E rfl) (fun hc => by (try simp at hc) <;> omega)) rfl ?_
          | refine dlw rfl rfl rfl (lop_index_ro (by
             first
              | exact W rfl (by
              first
               | exact id
               | simp)
              | exact E rfl) (E rfl) (fun hc => by (try simp at hc) <;> (simp only [List.length_map]; omega))) rfl ?_
          | refine dlw rfl rfl rfl (lop_index_own0 (by
             first
              | exact W rfl (by
              first
               | exact id
               | simp)
              | exact E rfl) sgT (E rfl) (fun hc => by (try simp at hc) <;> omega)) rfl ?_
          | refine dlw rfl rfl rfl (lop_index_own (by
             first
              | exact W rfl (by
              first
               | exact id
               | simp)
              | exact E rfl) sgT (E rfl) (fun hc => by (try simp at hc) <;> omega)) rfl ?_
          | refine dlw rfl rfl rfl (lop_no (v := .bool false)) rfl ?_
        first
          | refine dln rfl rfl rfl rfl rfl ?_
          | (
            first
             | refine dly rfl rfl rfl (lop_load_el (by
              first
               | exact W rfl id
               | exact E rfl) rfl (fun hc => by
              first
               | rfl
               | exact get_map (by assumption)
               | assumption
               | exact get_map (at_bang (by omega))) (fun _ => rfl)) rfl ?_
             | refine dly rfl rfl rfl (lop_load_ow (by
              first
               | exact W rfl id
               | exact E rfl) rfl sgT (fun hc => by
              first
               | rfl
               | exact get_map (by assumption)
               | assumption
               | exact get_map (at_bang (by omega))) (fun _ => rfl)) rfl ?_)
          | refine dlg rfl rfl rfl (lop_load_el (by
             first
              | exact W rfl (by
              first
               | exact id
               | simp)
              | exact E rfl) rfl (fun hc => by
             first
              | rfl
              | exact get_map (by assumption)
              | assumption
              | exact get_map (at_bang (by (try simp at hc) <;> omega))) (fun _ => rfl)) rfl ?_
          | refine dlg rfl rfl rfl (lop_load_ow (by
             first
              | exact W rfl (by
              first
               | exact id
               | simp)
              | exact E rfl) rfl sgT (fun hc => by
             first
              | rfl
              | exact get_map (by assumption)
              | assumption
              | exact get_map (at_bang (by (try simp at hc) <;> omega))) (fun _ => rfl)) rfl ?_
          | refine dlw rfl rfl rfl (lop_load_el (by
             first
              | exact W rfl (by
              first
               | exact id
               | simp)
              | exact E rfl) rfl (fun hc => by
             first
              | rfl
              | exact get_map (by assumption)
              | assumption
              | exact get_map (at_bang (by (try simp at hc) <;> omega))) (fun _ => rfl)) rfl ?_
          | refine dlw rfl rfl rfl (lop_load_ow (by
             first
              | exact W rfl (by
              first
               | exact id
               | simp)
              | exact E rfl) rfl sgT (fun hc => by
             first
              | rfl
              | exact get_map (by assumption)
              | assumption
              | exact get_map (at_bang (by (try simp at hc) <;> omega))) (fun _ => rfl)) rfl ?_
          | refine dlw rfl rfl rfl (lop_no (v := .bool false)) rfl ?_
        first | refine dln rfl rfl rfl rfl rfl ?_ | (refine dly rfl rfl rfl (lop_move (E rfl)) rfl ?_) | refine dlg rfl rfl rfl (lop_move (E rfl)) rfl ?_ | refine dlw rfl rfl rfl (lop_move (E rfl)) rfl ?_ | refine dlw rfl rfl rfl (lop_no (v := .bool false)) rfl ?_
        first | refine dln rfl rfl rfl rfl rfl ?_ | (refine dly rfl rfl rfl (lop_move (E rfl)) rfl ?_) | refine dlg rfl rfl rfl (lop_move (E rfl)) rfl ?_ | refine dlw rfl rfl rfl (lop_move (E rfl)) rfl ?_ | refine dlw rfl rfl rfl (lop_no (v := .bool false)) rfl ?_
        first
          | refine dln rfl rfl rfl rfl rfl ?_
          | (
            first
             | refine dly rfl rfl rfl (lop_index_ro (by
              first
               | exact W rfl id
               | exact E rfl) (by
              first
               | exact W rfl id
               | exact E rfl) (fun hc => by (simp only [List.length_map]; omega))) rfl ?_
             | refine dly rfl rfl rfl (lop_index_own0 (by
              first
               | exact W rfl id
               | exact E rfl) sgT (by
              first
               | exact W rfl id
               | exact E rfl) (fun hc => by omega)) rfl ?_
             | refine dly rfl rfl rfl (lop_index_own (by
              first
               | exact W rfl id
               | exact E rfl) sgT (by
              first
               | exact W rfl id
               | exact E rfl) (fun hc => by omega)) rfl ?_)
          | refine dlg rfl rfl rfl (lop_index_ro (by
             first
              | exact W rfl (by
              first
               | exact id
               | simp)
              | exact E rfl) (by
             first
              | exact W rfl (by
              first
               | exact id
               | simp)
              | exact E rfl) (fun hc => by (try simp at hc) <;> (simp only [List.length_map]; omega))) rfl ?_
          | refine dlg rfl rfl rfl (lop_index_own0 (by
             first
              | exact W rfl (by
              first
               | exact id
               | simp)
              | exact E rfl) sgT (by
             first
              | exact W rfl (by
              first
               | exact id
               | simp)
              | exact E rfl) (fun hc => by (try simp at hc) <;> omega)) rfl ?_
          | refine dlg rfl rfl rfl (lop_index_own (by
             first
              | exact W rfl (by
              first
               | exact id
               | simp)
              | exact E rfl) sgT (by
             first
              | exact W rfl (by
              first
               | exact id
               | simp)
              | exact E rfl) (fun hc => by (try simp at hc) <;> omega)) rfl ?_
          | refine dlw rfl rfl rfl (lop_index_ro (by
             first
              | exact W rfl (by
              first
               | exact id
               | simp)
              | exact E rfl) (by
             first
              | exact W rfl (by
              first
               | exact id
               | simp)
              | exact E rfl) (fun hc => by (try simp at hc) <;> (simp only [List.length_map]; omega))) rfl ?_
          | refine dlw rfl rfl rfl (lop_index_own0 (by
             first
              | exact W rfl (by
              first
               | exact id
               | simp)
              | exact E rfl) sgT (by
             first
              | exact W rfl (by
              first
               | exact id
               | simp)
              | exact E rfl) (fun hc => by (try simp at hc) <;> omega)) rfl ?_
          | refine dlw rfl rfl rfl (lop_index_own (by
             first
              | exact W rfl (by
              first
               | exact id
               | simp)
              | exact E rfl) sgT (by
             first
              | exact W rfl (by
              first
               | exact id
               | simp)
              | exact E rfl) (fun hc => by (try simp at hc) <;> omega)) rfl ?_
          | refine dlw rfl rfl rfl (lop_no (v := .bool false)) rfl ?_
        first | refine dln rfl rfl rfl rfl rfl ?_ | (first | refine dly rfl rfl rfl (lop_field_el (by first | exact W rfl id | exact E rfl) rfl (by decide)) rfl ?_ | refine dly rfl rfl rfl (lop_field_ow (by first | exact W rfl id | exact E rfl) rfl (by decide)) rfl ?_) | refine dlg rfl rfl rfl (lop_field_el (by first | exact W rfl (by first | exact id | simp) | exact E rfl) rfl (by decide)) rfl ?_ | refine dlg rfl rfl rfl (lop_field_ow (by first | exact W rfl (by first | exact id | simp) | exact E rfl) rfl (by decide)) rfl ?_ | refine dlw rfl rfl rfl (lop_field_el (by first | exact W rfl (by first | exact id | simp) | exact E rfl) rfl (by decide)) rfl ?_ | refine dlw rfl rfl rfl (lop_field_ow (by first | exact W rfl (by first | exact id | simp) | exact E rfl) rfl (by decide)) rfl ?_ | refine dlw rfl rfl rfl (lop_no (v := .bool false)) rfl ?_
        first
          | refine dln rfl rfl rfl rfl rfl ?_
          | (
            first
             | refine dly rfl rfl rfl (lop_load_el (by
              first
               | exact W rfl id
               | exact E rfl) rfl (fun hc => by
              first
               | rfl
               | exact get_map (by assumption)
               | assumption
               | exact get_map (at_bang (by omega))) (fun _ => rfl)) rfl ?_
             | refine dly rfl rfl rfl (lop_load_ow (by
              first
               | exact W rfl id
               | exact E rfl) rfl sgT (fun hc => by
              first
               | rfl
               | exact get_map (by assumption)
               | assumption
               | exact get_map (at_bang (by omega))) (fun _ => rfl)) rfl ?_)
          | refine dlg rfl rfl rfl (lop_load_el (by
             first
              | exact W rfl (by
              first
               | exact id
               | simp)
              | exact E rfl) rfl (fun hc => by
             first
              | rfl
              | exact get_map (by assumption)
              | assumption
              | exact get_map (at_bang (by (try simp at hc) <;> omega))) (fun _ => rfl)) rfl ?_
          | refine dlg rfl rfl rfl (lop_load_ow (by
             first
              | exact W rfl (by
              first
               | exact id
               | simp)
              | exact E rfl) rfl sgT (fun hc => by
             first
              | rfl
              | exact get_map (by assumption)
              | assumption
              | exact get_map (at_bang (by (try simp at hc) <;> omega))) (fun _ => rfl)) rfl ?_
          | refine dlw rfl rfl rfl (lop_load_el (by
             first
              | exact W rfl (by
              first
               | exact id
               | simp)
              | exact E rfl) rfl (fun hc => by
             first
              | rfl
              | exact get_map (by assumption)
              | assumption
              | exact get_map (at_bang (by (try simp at hc) <;> omega))) (fun _ => rfl)) rfl ?_
          | refine dlw rfl rfl rfl (lop_load_ow (by
             first
              | exact W rfl (by
              first
               | exact id
               | simp)
              | exact E rfl) rfl sgT (fun hc => by
             first
              | rfl
              | exact get_map (by assumption)
              | assumption
              | exact get_map (at_bang (by (try simp at hc) <;> omega))) (fun _ => rfl)) rfl ?_
          | refine dlw rfl rfl rfl (lop_no (v := .bool false)) rfl ?_
        first | refine dln rfl rfl rfl rfl rfl ?_ | (refine dly rfl rfl rfl (lop_neq (by first | exact W rfl id | exact E rfl) (by first | exact W rfl id | exact E rfl)) rfl ?_) | refine dlg rfl rfl rfl (lop_neq (by first | exact W rfl (by first | exact id | simp) | exact E rfl) (by first | exact W rfl (by first | exact id | simp) | exact E rfl)) rfl ?_ | refine dlw rfl rfl rfl (lop_neq (by first | exact W rfl (by first | exact id | simp) | exact E rfl) (by first | exact W rfl (by first | exact id | simp) | exact E rfl)) rfl ?_ | refine dlw rfl rfl rfl (lop_no (v := .bool false)) rfl ?_
        rw [show ((b.at_ : Int) != (b.at_ : Int)) = false by simp]
        first | refine dln rfl rfl rfl rfl rfl ?_ | (first | refine dly rfl rfl rfl (lop_pick_t (by first | exact W rfl id | exact E rfl) (E rfl)) rfl ?_ | refine dly rfl rfl rfl (lop_pick_f (by first | exact W rfl id | exact E rfl) (by first | exact W rfl (by simp) | exact E rfl)) rfl ?_ | refine dly rfl rfl rfl (lop_pick (by first | exact W rfl id | exact E rfl) (E rfl) (by first | exact W rfl (by simp) | exact E rfl)) rfl ?_) | refine dlg rfl rfl rfl (lop_pick_t (by first | exact W rfl id | exact E rfl) (E rfl)) rfl ?_ | refine dlg rfl rfl rfl (lop_pick_f (by first | exact W rfl id | exact E rfl) (by first | exact W rfl (by simp) | exact E rfl)) rfl ?_ | refine dlg rfl rfl rfl (lop_pick (by first | exact W rfl id | exact E rfl) (E rfl) (by first | exact W rfl (by simp) | exact E rfl)) rfl ?_
        refine z160 ?_
        refine deT ?_
        (refine ctlT ?_)
        refine rgT ?_
        refine lo (lop_move (E rfl)) rfl ?_
        refine z17 ?_
        refine lo (lop_assign (E rfl)) rfl ?_
        refine leT ?_
        (refine ctlT ?_)
        refine ⟨j + 1, hlt, by show s.all.length - (j + 1) < s.all.length - j; omega, ?_⟩
        (exact sgoT)
    · have hc2 := nat_at hc
      refine rgD [(0, true), (1, true), (2, true), (3, true), (4, true), (5, true), (7, true), (8, true), (9, true), (10, true), (11, true), (6, false), (12, true), (13, true), (14, true), (15, true), (16, true), (17, true), (18, true), (19, true), (20, true), (21, true), (22, true), (23, true), (24, true), (25, true), (26, true), (27, true), (28, true), (29, true), (30, true), (31, true), (32, true), (33, true), (34, true), (35, true), (36, true), (37, true), (38, true)] ?_
      refine dlo rfl (lop_move (E rfl)) rfl ?_
      refine dlo rfl (lop_move (E rfl)) rfl ?_
      refine dlo rfl (lop_move (E rfl)) rfl ?_
      refine z56 ?_
      refine z161 ?_
      refine z57 ?_
      refine dlo rfl (lop_move (E rfl)) rfl ?_
      refine dlo rfl (lop_move (E rfl)) rfl ?_
      refine z56 ?_
      refine z161 ?_
      refine z57 ?_
      refine dlm rfl rfl sgT rfl hget rfl ?_
      refine z58 ?_
      rw [show (b.en != b.en) = false by simp]
      refine dlo rfl (lop_move (E rfl)) rfl ?_
      refine z156 ?_
      refine z156 ?_
      refine z157 ?_
      refine z170 ?_
      refine z158 ?_
      refine z184 ?_
      rw [show (b.els != -1) = false by rw [hels]; rfl]
      refine z172 ?_
      refine dlo rfl (lop_move (E rfl)) rfl ?_
      refine z156 ?_
      first | refine dln rfl rfl rfl rfl rfl ?_ | (refine dly rfl rfl rfl (lop_gtr (by first | exact W rfl id | exact E rfl) (E rfl)) rfl ?_) | refine dlg rfl rfl rfl (lop_gtr (by first | exact W rfl id | exact E rfl) (E rfl)) rfl ?_
      rw [show decide ((0 : Int) < (j : Int)) = true from decide_eq_true (by omega)]
      first | refine dln rfl rfl rfl rfl rfl ?_ | (refine dly rfl rfl rfl (lop_move (by first | exact W rfl id | exact E rfl)) rfl ?_) | refine dlg rfl rfl rfl (lop_move (by first | exact W rfl id | exact E rfl)) rfl ?_
      first | refine dln rfl rfl rfl rfl rfl ?_ | (refine dly rfl rfl rfl (lop_move (E rfl)) rfl ?_) | refine dlg rfl rfl rfl (lop_move (E rfl)) rfl ?_ | refine dlw rfl rfl rfl (lop_move (E rfl)) rfl ?_ | refine dlw rfl rfl rfl (lop_no (v := .bool false)) rfl ?_
      first | refine dln rfl rfl rfl rfl rfl ?_ | (refine dly rfl rfl rfl (lop_move (E rfl)) rfl ?_) | refine dlg rfl rfl rfl (lop_move (E rfl)) rfl ?_ | refine dlw rfl rfl rfl (lop_move (E rfl)) rfl ?_ | refine dlw rfl rfl rfl (lop_no (v := .bool false)) rfl ?_
      first
        | refine dln rfl rfl rfl rfl rfl ?_
        | (
          first
           | refine dly rfl rfl rfl (lop_index_ro (by
            first
             | exact W rfl id
             | exact E rfl) (by
            first
             | exact W rfl id
             | exact E rfl) (fun hc => by (simp only [List.length_map]; omega))) rfl ?_
           | refine dly rfl rfl rfl (lop_index_own0 (by
            first
             | exact W rfl id
             | exact E rfl) sgT (by
            first
             | exact W rfl id
             | exact E rfl) (fun hc => by omega)) rfl ?_
           | refine dly rfl rfl rfl (lop_index_own (by
            first
             | exact W rfl id
             | exact E rfl) sgT (by
            first
             | exact W rfl id
             | exact E rfl) (fun hc => by omega)) rfl ?_)
        | refine dlg rfl rfl rfl (lop_index_ro (by
           first
            | exact W rfl (by
            first
             | exact id
             | simp)
            | exact E rfl) (by
           first
            | exact W rfl (by
            first
             | exact id
             | simp)
            | exact E rfl) (fun hc => by (try simp at hc) <;> (simp only [List.length_map]; omega))) rfl ?_
        | refine dlg rfl rfl rfl (lop_index_own0 (by
           first
            | exact W rfl (by
            first
             | exact id
             | simp)
            | exact E rfl) sgT (by
           first
            | exact W rfl (by
            first
             | exact id
             | simp)
            | exact E rfl) (fun hc => by (try simp at hc) <;> omega)) rfl ?_
        | refine dlg rfl rfl rfl (lop_index_own (by
           first
            | exact W rfl (by
            first
             | exact id
             | simp)
            | exact E rfl) sgT (by
           first
            | exact W rfl (by
            first
             | exact id
             | simp)
            | exact E rfl) (fun hc => by (try simp at hc) <;> omega)) rfl ?_
        | refine dlw rfl rfl rfl (lop_index_ro (by
           first
            | exact W rfl (by
            first
             | exact id
             | simp)
            | exact E rfl) (by
           first
            | exact W rfl (by
            first
             | exact id
             | simp)
            | exact E rfl) (fun hc => by (try simp at hc) <;> (simp only [List.length_map]; omega))) rfl ?_
        | refine dlw rfl rfl rfl (lop_index_own0 (by
           first
            | exact W rfl (by
            first
             | exact id
             | simp)
            | exact E rfl) sgT (by
           first
            | exact W rfl (by
            first
             | exact id
             | simp)
            | exact E rfl) (fun hc => by (try simp at hc) <;> omega)) rfl ?_
        | refine dlw rfl rfl rfl (lop_index_own (by
           first
            | exact W rfl (by
            first
             | exact id
             | simp)
            | exact E rfl) sgT (by
           first
            | exact W rfl (by
            first
             | exact id
             | simp)
            | exact E rfl) (fun hc => by (try simp at hc) <;> omega)) rfl ?_
        | refine dlw rfl rfl rfl (lop_no (v := .bool false)) rfl ?_
      first | refine dln rfl rfl rfl rfl rfl ?_ | (first | refine dly rfl rfl rfl (lop_field_el (by first | exact W rfl id | exact E rfl) rfl (by decide)) rfl ?_ | refine dly rfl rfl rfl (lop_field_ow (by first | exact W rfl id | exact E rfl) rfl (by decide)) rfl ?_) | refine dlg rfl rfl rfl (lop_field_el (by first | exact W rfl (by first | exact id | simp) | exact E rfl) rfl (by decide)) rfl ?_ | refine dlg rfl rfl rfl (lop_field_ow (by first | exact W rfl (by first | exact id | simp) | exact E rfl) rfl (by decide)) rfl ?_ | refine dlw rfl rfl rfl (lop_field_el (by first | exact W rfl (by first | exact id | simp) | exact E rfl) rfl (by decide)) rfl ?_ | refine dlw rfl rfl rfl (lop_field_ow (by first | exact W rfl (by first | exact id | simp) | exact E rfl) rfl (by decide)) rfl ?_ | refine dlw rfl rfl rfl (lop_no (v := .bool false)) rfl ?_
      first
        | refine dln rfl rfl rfl rfl rfl ?_
        | (
          first
           | refine dly rfl rfl rfl (lop_load_el (by
            first
             | exact W rfl id
             | exact E rfl) rfl (fun hc => by
            first
             | rfl
             | exact get_map (by assumption)
             | assumption
             | exact get_map (at_bang (by omega))) (fun _ => rfl)) rfl ?_
           | refine dly rfl rfl rfl (lop_load_ow (by
            first
             | exact W rfl id
             | exact E rfl) rfl sgT (fun hc => by
            first
             | rfl
             | exact get_map (by assumption)
             | assumption
             | exact get_map (at_bang (by omega))) (fun _ => rfl)) rfl ?_)
        | refine dlg rfl rfl rfl (lop_load_el (by
           first
            | exact W rfl (by
            first
             | exact id
             | simp)
            | exact E rfl) rfl (fun hc => by
           first
            | rfl
            | exact get_map (by assumption)
            | assumption
            | exact get_map (at_bang (by (try simp at hc) <;> omega))) (fun _ => rfl)) rfl ?_
        | refine dlg rfl rfl rfl (lop_load_ow (by
           first
            | exact W rfl (by
            first
             | exact id
             | simp)
            | exact E rfl) rfl sgT (fun hc => by
           first
            | rfl
            | exact get_map (by assumption)
            | assumption
            | exact get_map (at_bang (by (try simp at hc) <;> omega))) (fun _ => rfl)) rfl ?_
        | refine dlw rfl rfl rfl (lop_load_el (by
           first
            | exact W rfl (by
            first
             | exact id
             | simp)
            | exact E rfl) rfl (fun hc => by
           first
            | rfl
            | exact get_map (by assumption)
            | assumption
            | exact get_map (at_bang (by (try simp at hc) <;> omega))) (fun _ => rfl)) rfl ?_
        | refine dlw rfl rfl rfl (lop_load_ow (by
           first
            | exact W rfl (by
            first
             | exact id
             | simp)
            | exact E rfl) rfl sgT (fun hc => by
           first
            | rfl
            | exact get_map (by assumption)
            | assumption
            | exact get_map (at_bang (by (try simp at hc) <;> omega))) (fun _ => rfl)) rfl ?_
        | refine dlw rfl rfl rfl (lop_no (v := .bool false)) rfl ?_
      first | refine dln rfl rfl rfl rfl rfl ?_ | (refine dly rfl rfl rfl (lop_move (E rfl)) rfl ?_) | refine dlg rfl rfl rfl (lop_move (E rfl)) rfl ?_ | refine dlw rfl rfl rfl (lop_move (E rfl)) rfl ?_ | refine dlw rfl rfl rfl (lop_no (v := .bool false)) rfl ?_
      first | refine dln rfl rfl rfl rfl rfl ?_ | (refine dly rfl rfl rfl (lop_move (E rfl)) rfl ?_) | refine dlg rfl rfl rfl (lop_move (E rfl)) rfl ?_ | refine dlw rfl rfl rfl (lop_move (E rfl)) rfl ?_ | refine dlw rfl rfl rfl (lop_no (v := .bool false)) rfl ?_
      first | refine dln rfl rfl rfl rfl rfl ?_ | (first | refine dly rfl rfl rfl (lop_sub64 (by first | exact W rfl id | exact E rfl) (E rfl) (by omega) (by omega)) rfl ?_ | refine dly rfl rfl rfl (lop_sub (by first | exact W rfl id | exact E rfl) (E rfl)) rfl ?_) | refine dlg rfl rfl rfl (lop_sub64 (by first | exact W rfl (by first | exact id | simp) | exact E rfl) (E rfl) (by omega) (by omega)) rfl ?_ | refine dlg rfl rfl rfl (lop_sub64c (by first | exact W rfl (by first | exact id | simp) | exact E rfl) (E rfl) (fun hc => by simp at hc <;> first | omega | (have hov := hov hc; omega))) rfl ?_ | refine dlg rfl rfl rfl (lop_sub (by first | exact W rfl (by first | exact id | simp) | exact E rfl) (E rfl)) rfl ?_ | refine dlw rfl rfl rfl (lop_sub64 (by first | exact W rfl (by first | exact id | simp) | exact E rfl) (E rfl) (by omega) (by omega)) rfl ?_ | refine dlw rfl rfl rfl (lop_sub64c (by first | exact W rfl (by first | exact id | simp) | exact E rfl) (E rfl) (fun hc => by simp at hc <;> first | omega | (have hov := hov hc; omega))) rfl ?_ | refine dlw rfl rfl rfl (lop_sub (by first | exact W rfl (by first | exact id | simp) | exact E rfl) (E rfl)) rfl ?_ | refine dlw rfl rfl rfl (lop_no (v := .bool false)) rfl ?_
      rw [show (j : Int) - 1 = (i' : Nat) by omega]
      first
        | refine dln rfl rfl rfl rfl rfl ?_
        | (
          first
           | refine dly rfl rfl rfl (lop_index_ro (by
            first
             | exact W rfl id
             | exact E rfl) (by
            first
             | exact W rfl id
             | exact E rfl) (fun hc => by (simp only [List.length_map]; omega))) rfl ?_
           | refine dly rfl rfl rfl (lop_index_own0 (by
            first
             | exact W rfl id
             | exact E rfl) sgT (by
            first
             | exact W rfl id
             | exact E rfl) (fun hc => by omega)) rfl ?_
           | refine dly rfl rfl rfl (lop_index_own (by
            first
             | exact W rfl id
             | exact E rfl) sgT (by
            first
             | exact W rfl id
             | exact E rfl) (fun hc => by omega)) rfl ?_)
        | refine dlg rfl rfl rfl (lop_index_ro (by
           first
            | exact W rfl (by
            first
             | exact id
             | simp)
            | exact E rfl) (by
           first
            | exact W rfl (by
            first
             | exact id
             | simp)
            | exact E rfl) (fun hc => by (try simp at hc) <;> (simp only [List.length_map]; omega))) rfl ?_
        | refine dlg rfl rfl rfl (lop_index_own0 (by
           first
            | exact W rfl (by
            first
             | exact id
             | simp)
            | exact E rfl) sgT (by
           first
            | exact W rfl (by
            first
             | exact id
             | simp)
            | exact E rfl) (fun hc => by (try simp at hc) <;> omega)) rfl ?_
        | refine dlg rfl rfl rfl (lop_index_own (by
           first
            | exact W rfl (by
            first
             | exact id
             | simp)
            | exact E rfl) sgT (by
           first
            | exact W rfl (by
            first
             | exact id
             | simp)
            | exact E rfl) (fun hc => by (try simp at hc) <;> omega)) rfl ?_
        | refine dlw rfl rfl rfl (lop_index_ro (by
           first
            | exact W rfl (by
            first
             | exact id
             | simp)
            | exact E rfl) (by
           first
            | exact W rfl (by
            first
             | exact id
             | simp)
            | exact E rfl) (fun hc => by (try simp at hc) <;> (simp only [List.length_map]; omega))) rfl ?_
        | refine dlw rfl rfl rfl (lop_index_own0 (by
           first
            | exact W rfl (by
            first
             | exact id
             | simp)
            | exact E rfl) sgT (by
           first
            | exact W rfl (by
            first
             | exact id
             | simp)
            | exact E rfl) (fun hc => by (try simp at hc) <;> omega)) rfl ?_
        | refine dlw rfl rfl rfl (lop_index_own (by
           first
            | exact W rfl (by
            first
             | exact id
             | simp)
            | exact E rfl) sgT (by
           first
            | exact W rfl (by
            first
             | exact id
             | simp)
            | exact E rfl) (fun hc => by (try simp at hc) <;> omega)) rfl ?_
        | refine dlw rfl rfl rfl (lop_no (v := .bool false)) rfl ?_
      first | refine dln rfl rfl rfl rfl rfl ?_ | (first | refine dly rfl rfl rfl (lop_field_el (by first | exact W rfl id | exact E rfl) rfl (by decide)) rfl ?_ | refine dly rfl rfl rfl (lop_field_ow (by first | exact W rfl id | exact E rfl) rfl (by decide)) rfl ?_) | refine dlg rfl rfl rfl (lop_field_el (by first | exact W rfl (by first | exact id | simp) | exact E rfl) rfl (by decide)) rfl ?_ | refine dlg rfl rfl rfl (lop_field_ow (by first | exact W rfl (by first | exact id | simp) | exact E rfl) rfl (by decide)) rfl ?_ | refine dlw rfl rfl rfl (lop_field_el (by first | exact W rfl (by first | exact id | simp) | exact E rfl) rfl (by decide)) rfl ?_ | refine dlw rfl rfl rfl (lop_field_ow (by first | exact W rfl (by first | exact id | simp) | exact E rfl) rfl (by decide)) rfl ?_ | refine dlw rfl rfl rfl (lop_no (v := .bool false)) rfl ?_
      first
        | refine dln rfl rfl rfl rfl rfl ?_
        | (
          first
           | refine dly rfl rfl rfl (lop_load_el (by
            first
             | exact W rfl id
             | exact E rfl) rfl (fun hc => by
            first
             | rfl
             | exact get_map (by assumption)
             | assumption
             | exact get_map (at_bang (by omega))) (fun _ => rfl)) rfl ?_
           | refine dly rfl rfl rfl (lop_load_ow (by
            first
             | exact W rfl id
             | exact E rfl) rfl sgT (fun hc => by
            first
             | rfl
             | exact get_map (by assumption)
             | assumption
             | exact get_map (at_bang (by omega))) (fun _ => rfl)) rfl ?_)
        | refine dlg rfl rfl rfl (lop_load_el (by
           first
            | exact W rfl (by
            first
             | exact id
             | simp)
            | exact E rfl) rfl (fun hc => by
           first
            | rfl
            | exact get_map (by assumption)
            | assumption
            | exact get_map (at_bang (by (try simp at hc) <;> omega))) (fun _ => rfl)) rfl ?_
        | refine dlg rfl rfl rfl (lop_load_ow (by
           first
            | exact W rfl (by
            first
             | exact id
             | simp)
            | exact E rfl) rfl sgT (fun hc => by
           first
            | rfl
            | exact get_map (by assumption)
            | assumption
            | exact get_map (at_bang (by (try simp at hc) <;> omega))) (fun _ => rfl)) rfl ?_
        | refine dlw rfl rfl rfl (lop_load_el (by
           first
            | exact W rfl (by
            first
             | exact id
             | simp)
            | exact E rfl) rfl (fun hc => by
           first
            | rfl
            | exact get_map (by assumption)
            | assumption
            | exact get_map (at_bang (by (try simp at hc) <;> omega))) (fun _ => rfl)) rfl ?_
        | refine dlw rfl rfl rfl (lop_load_ow (by
           first
            | exact W rfl (by
            first
             | exact id
             | simp)
            | exact E rfl) rfl sgT (fun hc => by
           first
            | rfl
            | exact get_map (by assumption)
            | assumption
            | exact get_map (at_bang (by (try simp at hc) <;> omega))) (fun _ => rfl)) rfl ?_
        | refine dlw rfl rfl rfl (lop_no (v := .bool false)) rfl ?_
      first | refine dln rfl rfl rfl rfl rfl ?_ | (refine dly rfl rfl rfl (lop_leq (by first | exact W rfl id | exact E rfl) (by first | exact W rfl id | exact E rfl)) rfl ?_) | refine dlg rfl rfl rfl (lop_leq (by first | exact W rfl (by first | exact id | simp) | exact E rfl) (by first | exact W rfl (by first | exact id | simp) | exact E rfl)) rfl ?_ | refine dlw rfl rfl rfl (lop_leq (by first | exact W rfl (by first | exact id | simp) | exact E rfl) (by first | exact W rfl (by first | exact id | simp) | exact E rfl)) rfl ?_ | refine dlw rfl rfl rfl (lop_no (v := .bool false)) rfl ?_
      rw [show decide ((b.at_ : Int) ≤ (c.at_ : Int)) = false from decide_eq_false (by omega)]
      first | refine dln rfl rfl rfl rfl rfl ?_ | (first | refine dly rfl rfl rfl (lop_pick_t (by first | exact W rfl id | exact E rfl) (by first | exact W rfl (by simp) | exact E rfl)) rfl ?_ | refine dly rfl rfl rfl (lop_pick_f (by first | exact W rfl id | exact E rfl) (E rfl)) rfl ?_ | refine dly rfl rfl rfl (lop_pick (by first | exact W rfl id | exact E rfl) (by first | exact W rfl (by simp) | exact E rfl) (E rfl)) rfl ?_) | refine dlg rfl rfl rfl (lop_pick_t (by first | exact W rfl id | exact E rfl) (by first | exact W rfl (by simp) | exact E rfl)) rfl ?_ | refine dlg rfl rfl rfl (lop_pick_f (by first | exact W rfl id | exact E rfl) (E rfl)) rfl ?_ | refine dlg rfl rfl rfl (lop_pick (by first | exact W rfl id | exact E rfl) (by first | exact W rfl (by simp) | exact E rfl) (E rfl)) rfl ?_
      refine z172 ?_
      refine deT ?_
      (refine ctlT ?_)
      refine rgT ?_
      refine lo (lop_move (E rfl)) rfl ?_
      refine lo (lop_move (E rfl)) rfl ?_
      refine lo (lop_move (E rfl)) rfl ?_
      refine z15 ?_
      refine z117 ?_
      refine z16 ?_
      refine z19 ?_
      refine cw [] Try.call6 (code_targets (B.map insO) (by simp; omega) (b.en - 1)) rfl argsleT stleT ?_
      rintro _ σ' ⟨q13, rfl, rfl⟩ h181
      replace h181 := cnewT h181; (repeat (rcases h181 with ⟨_, h181⟩))
      rw [opsOf_insO]
      (apply rs_sto; (exact nflT))
      refine lo (lop_assign (E rfl)) rfl ?_
      refine leT ?_
      (refine ctlT ?_)
      refine fzvs (j := 13) rfl sdelT (bor_own sgT (by simp)) ?_
      obtain ha1 | ⟨p, w, hp, ha1, hw, hw1⟩ | ⟨p, hp, ha1, hw1, t, ht⟩ := shp_at hS ho0 hbl hb
      · refine rgD [(0, true), (1, true), (2, true), (3, true), (4, true), (5, true), (6, true), (7, true), (8, true), (9, true), (10, true), (11, true), (12, true), (13, true), (14, true), (15, true), (16, true), (17, true), (18, true), (19, true), (20, true), (21, true), (22, true), (23, true), (24, true), (25, true), (26, true), (27, true), (28, true), (29, true), (30, true), (31, true), (32, true), (33, true), (34, true), (35, true), (36, true), (37, true), (38, true), (39, true), (40, true)] ?_
        refine dlo rfl (lop_move (E rfl)) rfl ?_
        refine dlo rfl (lop_move (E rfl)) rfl ?_
        refine z56 ?_
        refine z161 ?_
        refine z57 ?_
        refine z82 ?_
        refine dlo rfl (lop_move (E rfl)) rfl ?_
        refine dlo rfl (lop_move (E rfl)) rfl ?_
        refine z56 ?_
        refine z161 ?_
        refine z57 ?_
        refine dlo rfl (lop_gtr (E rfl) (E rfl)) rfl ?_
        rw [show decide ((b.at_ : Int) < b.en - 1) = false from decide_eq_false (by omega)]
        refine dlo rfl (lop_move (E rfl)) rfl ?_
        refine z156 ?_
        refine z156 ?_
        refine z156 ?_
        refine z157 ?_
        refine z170 ?_
        refine z158 ?_
        first | refine dln rfl rfl rfl rfl rfl ?_ | (first | refine dly rfl rfl rfl (lop_sub64 (by first | exact W rfl id | exact E rfl) (E rfl) (by omega) (by omega)) rfl ?_ | refine dly rfl rfl rfl (lop_sub (by first | exact W rfl id | exact E rfl) (E rfl)) rfl ?_) | refine dlg rfl rfl rfl (lop_sub64 (by first | exact W rfl id | exact E rfl) (E rfl) (by omega) (by omega)) rfl ?_ | refine dlg rfl rfl rfl (lop_sub64c (by first | exact W rfl id | exact E rfl) (E rfl) (fun hc => by simp at hc <;> first | omega | (have hov := hov hc; omega))) rfl ?_ | refine dlg rfl rfl rfl (lop_sub (by first | exact W rfl id | exact E rfl) (E rfl)) rfl ?_
        refine z157 ?_
        refine z170 ?_
        refine z158 ?_
        first | refine dln rfl rfl rfl rfl rfl ?_ | (refine dly rfl rfl rfl (lop_eql (by first | exact W rfl id | exact E rfl) (E rfl)) rfl ?_) | refine dlg rfl rfl rfl (lop_eql (by first | exact W rfl id | exact E rfl) (E rfl)) rfl ?_
        refine z160 ?_
        refine dlo rfl (lop_move (E rfl)) rfl ?_
        refine z156 ?_
        first | refine dln rfl rfl rfl rfl rfl ?_ | (first | refine dly rfl rfl rfl (lop_len_map (by first | exact W rfl id | exact E rfl)) rfl ?_ | refine dly rfl rfl rfl (lop_len_ro (by first | exact W rfl id | exact E rfl)) rfl ?_ | refine dly rfl rfl rfl (lop_len_own (by first | exact W rfl id | exact E rfl)) rfl ?_) | refine dlg rfl rfl rfl (lop_len_map (by first | exact W rfl id | exact E rfl)) rfl ?_ | refine dlg rfl rfl rfl (lop_len_ro (by first | exact W rfl id | exact E rfl)) rfl ?_ | refine dlg rfl rfl rfl (lop_len_own (by first | exact W rfl id | exact E rfl)) rfl ?_
        first | refine dln rfl rfl rfl rfl rfl ?_ | (refine dly rfl rfl rfl (lop_eql (by first | exact W rfl id | exact E rfl) (E rfl)) rfl ?_) | refine dlg rfl rfl rfl (lop_eql (by first | exact W rfl id | exact E rfl) (E rfl)) rfl ?_
        first | refine dln rfl rfl rfl rfl rfl ?_ | (refine dly rfl rfl rfl (lop_move (by first | exact W rfl id | exact E rfl)) rfl ?_) | refine dlg rfl rfl rfl (lop_move (by first | exact W rfl id | exact E rfl)) rfl ?_
        first | refine dln rfl rfl rfl rfl rfl ?_ | (refine dly rfl rfl rfl (lop_move (E rfl)) rfl ?_) | refine dlg rfl rfl rfl (lop_move (E rfl)) rfl ?_ | refine dlw rfl rfl rfl (lop_move (E rfl)) rfl ?_ | refine dlw rfl rfl rfl (lop_no (v := .bool false)) rfl ?_
        first
          | refine dln rfl rfl rfl rfl rfl ?_
          | (
            first
             | refine dly rfl rfl rfl (lop_index_ro (by
              first
               | exact W rfl id
               | exact E rfl) (E rfl) (fun hc => by (simp only [List.length_map]; omega))) rfl ?_
             | refine dly rfl rfl rfl (lop_index_own0 (by
              first
               | exact W rfl id
               | exact E rfl) sgT (E rfl) (fun hc => by omega)) rfl ?_
             | refine dly rfl rfl rfl (lop_index_own (by
              first
               | exact W rfl id
               | exact E rfl) sgT (E rfl) (fun hc => by omega)) rfl ?_)
          | refine dlg rfl rfl rfl (lop_index_ro (by
             first
              | exact W rfl (by
              first
               | exact id
               | simp)
              | exact E rfl) (E rfl) (fun hc => by (try simp at hc) <;> (simp only [List.length_map]; omega))) rfl ?_
          | refine dlg rfl rfl rfl (lop_index_own0 (by
             first
              | exact W rfl (by
              first
               | exact id
               | simp)
              | exact E rfl) sgT (E rfl) (fun hc => by (try simp at hc) <;> omega)) rfl ?_
          | refine dlg rfl rfl rfl (lop_index_own (by
             first
              | exact W rfl (by
              first
               | exact id
               | simp)
              | exact E rfl) sgT (E rfl) (fun hc => by (try simp at hc) <;> omega)) rfl ?_
          | refine dlw rfl rfl rfl (lop_index_ro (by
             first
              | exact W rfl (by
              first
               | exact id
               | simp)
              | exact E rfl) (E rfl) (fun hc => by (try simp at hc) <;> (simp only [List.length_map]; omega))) rfl ?_
          | refine dlw rfl rfl rfl (lop_index_own0 (by
             first
              | exact W rfl (by
              first
               | exact id
               | simp)
              | exact E rfl) sgT (E rfl) (fun hc => by (try simp at hc) <;> omega)) rfl ?_
          | refine dlw rfl rfl rfl (lop_index_own (by
             first
              | exact W rfl (by
              first
               | exact id
               | simp)
              | exact E rfl) sgT (E rfl) (fun hc => by (try simp at hc) <;> omega)) rfl ?_
          | refine dlw rfl rfl rfl (lop_no (v := .bool false)) rfl ?_
        first
          | refine dln rfl rfl rfl rfl rfl ?_
          | (
            first
             | refine dly rfl rfl rfl (lop_load_el (by
              first
               | exact W rfl id
               | exact E rfl) rfl (fun hc => by
              first
               | rfl
               | exact get_map (by assumption)
               | assumption
               | exact get_map (at_bang (by omega))) (fun _ => rfl)) rfl ?_
             | refine dly rfl rfl rfl (lop_load_ow (by
              first
               | exact W rfl id
               | exact E rfl) rfl sgT (fun hc => by
              first
               | rfl
               | exact get_map (by assumption)
               | assumption
               | exact get_map (at_bang (by omega))) (fun _ => rfl)) rfl ?_)
          | refine dlg rfl rfl rfl (lop_load_el (by
             first
              | exact W rfl (by
              first
               | exact id
               | simp)
              | exact E rfl) rfl (fun hc => by
             first
              | rfl
              | exact get_map (by assumption)
              | assumption
              | exact get_map (at_bang (by (try simp at hc) <;> omega))) (fun _ => rfl)) rfl ?_
          | refine dlg rfl rfl rfl (lop_load_ow (by
             first
              | exact W rfl (by
              first
               | exact id
               | simp)
              | exact E rfl) rfl sgT (fun hc => by
             first
              | rfl
              | exact get_map (by assumption)
              | assumption
              | exact get_map (at_bang (by (try simp at hc) <;> omega))) (fun _ => rfl)) rfl ?_
          | refine dlw rfl rfl rfl (lop_load_el (by
             first
              | exact W rfl (by
              first
               | exact id
               | simp)
              | exact E rfl) rfl (fun hc => by
             first
              | rfl
              | exact get_map (by assumption)
              | assumption
              | exact get_map (at_bang (by (try simp at hc) <;> omega))) (fun _ => rfl)) rfl ?_
          | refine dlw rfl rfl rfl (lop_load_ow (by
             first
              | exact W rfl (by
              first
               | exact id
               | simp)
              | exact E rfl) rfl sgT (fun hc => by
             first
              | rfl
              | exact get_map (by assumption)
              | assumption
              | exact get_map (at_bang (by (try simp at hc) <;> omega))) (fun _ => rfl)) rfl ?_
          | refine dlw rfl rfl rfl (lop_no (v := .bool false)) rfl ?_
        first | refine dln rfl rfl rfl rfl rfl ?_ | (refine dly rfl rfl rfl (lop_move (E rfl)) rfl ?_) | refine dlg rfl rfl rfl (lop_move (E rfl)) rfl ?_ | refine dlw rfl rfl rfl (lop_move (E rfl)) rfl ?_ | refine dlw rfl rfl rfl (lop_no (v := .bool false)) rfl ?_
        first | refine dln rfl rfl rfl rfl rfl ?_ | (refine dly rfl rfl rfl (lop_move (E rfl)) rfl ?_) | refine dlg rfl rfl rfl (lop_move (E rfl)) rfl ?_ | refine dlw rfl rfl rfl (lop_move (E rfl)) rfl ?_ | refine dlw rfl rfl rfl (lop_no (v := .bool false)) rfl ?_
        first
          | refine dln rfl rfl rfl rfl rfl ?_
          | (
            first
             | refine dly rfl rfl rfl (lop_index_ro (by
              first
               | exact W rfl id
               | exact E rfl) (by
              first
               | exact W rfl id
               | exact E rfl) (fun hc => by (simp only [List.length_map]; omega))) rfl ?_
             | refine dly rfl rfl rfl (lop_index_own0 (by
              first
               | exact W rfl id
               | exact E rfl) sgT (by
              first
               | exact W rfl id
               | exact E rfl) (fun hc => by omega)) rfl ?_
             | refine dly rfl rfl rfl (lop_index_own (by
              first
               | exact W rfl id
               | exact E rfl) sgT (by
              first
               | exact W rfl id
               | exact E rfl) (fun hc => by omega)) rfl ?_)
          | refine dlg rfl rfl rfl (lop_index_ro (by
             first
              | exact W rfl (by
              first
               | exact id
               | simp)
              | exact E rfl) (by
             first
              | exact W rfl (by
              first
               | exact id
               | simp)
              | exact E rfl) (fun hc => by (try simp at hc) <;> (simp only [List.length_map]; omega))) rfl ?_
          | refine dlg rfl rfl rfl (lop_index_own0 (by
             first
              | exact W rfl (by
              first
               | exact id
               | simp)
              | exact E rfl) sgT (by
             first
              | exact W rfl (by
              first
               | exact id
               | simp)
              | exact E rfl) (fun hc => by (try simp at hc) <;> omega)) rfl ?_
          | refine dlg rfl rfl rfl (lop_index_own (by
             first
              | exact W rfl (by
              first
               | exact id
               | simp)
              | exact E rfl) sgT (by
             first
              | exact W rfl (by
              first
               | exact id
               | simp)
              | exact E rfl) (fun hc => by (try simp at hc) <;> omega)) rfl ?_
          | refine dlw rfl rfl rfl (lop_index_ro (by
             first
              | exact W rfl (by
              first
               | exact id
               | simp)
              | exact E rfl) (by
             first
              | exact W rfl (by
              first
               | exact id
               | simp)
              | exact E rfl) (fun hc => by (try simp at hc) <;> (simp only [List.length_map]; omega))) rfl ?_
          | refine dlw rfl rfl rfl (lop_index_own0 (by
             first
              | exact W rfl (by
              first
               | exact id
               | simp)
              | exact E rfl) sgT (by
             first
              | exact W rfl (by
              first
               | exact id
               | simp)
              | exact E rfl) (fun hc => by (try simp at hc) <;> omega)) rfl ?_
          | refine dlw rfl rfl rfl (lop_index_own (by
             first
              | exact W rfl (by
              first
               | exact id
               | simp)
              | exact E rfl) sgT (by
             first
              | exact W rfl (by
              first
               | exact id
               | simp)
              | exact E rfl) (fun hc => by (try simp at hc) <;> omega)) rfl ?_
          | refine dlw rfl rfl rfl (lop_no (v := .bool false)) rfl ?_
        first | refine dln rfl rfl rfl rfl rfl ?_ | (first | refine dly rfl rfl rfl (lop_field_el (by first | exact W rfl id | exact E rfl) rfl (by decide)) rfl ?_ | refine dly rfl rfl rfl (lop_field_ow (by first | exact W rfl id | exact E rfl) rfl (by decide)) rfl ?_) | refine dlg rfl rfl rfl (lop_field_el (by first | exact W rfl (by first | exact id | simp) | exact E rfl) rfl (by decide)) rfl ?_ | refine dlg rfl rfl rfl (lop_field_ow (by first | exact W rfl (by first | exact id | simp) | exact E rfl) rfl (by decide)) rfl ?_ | refine dlw rfl rfl rfl (lop_field_el (by first | exact W rfl (by first | exact id | simp) | exact E rfl) rfl (by decide)) rfl ?_ | refine dlw rfl rfl rfl (lop_field_ow (by first | exact W rfl (by first | exact id | simp) | exact E rfl) rfl (by decide)) rfl ?_ | refine dlw rfl rfl rfl (lop_no (v := .bool false)) rfl ?_
        first
          | refine dln rfl rfl rfl rfl rfl ?_
          | (
            first
             | refine dly rfl rfl rfl (lop_load_el (by
              first
               | exact W rfl id
               | exact E rfl) rfl (fun hc => by
              first
               | rfl
               | exact get_map (by assumption)
               | assumption
               | exact get_map (at_bang (by omega))) (fun _ => rfl)) rfl ?_
             | refine dly rfl rfl rfl (lop_load_ow (by
              first
               | exact W rfl id
               | exact E rfl) rfl sgT (fun hc => by
              first
               | rfl
               | exact get_map (by assumption)
               | assumption
               | exact get_map (at_bang (by omega))) (fun _ => rfl)) rfl ?_)
          | refine dlg rfl rfl rfl (lop_load_el (by
             first
              | exact W rfl (by
              first
               | exact id
               | simp)
              | exact E rfl) rfl (fun hc => by
             first
              | rfl
              | exact get_map (by assumption)
              | assumption
              | exact get_map (at_bang (by (try simp at hc) <;> omega))) (fun _ => rfl)) rfl ?_
          | refine dlg rfl rfl rfl (lop_load_ow (by
             first
              | exact W rfl (by
              first
               | exact id
               | simp)
              | exact E rfl) rfl sgT (fun hc => by
             first
              | rfl
              | exact get_map (by assumption)
              | assumption
              | exact get_map (at_bang (by (try simp at hc) <;> omega))) (fun _ => rfl)) rfl ?_
          | refine dlw rfl rfl rfl (lop_load_el (by
             first
              | exact W rfl (by
              first
               | exact id
               | simp)
              | exact E rfl) rfl (fun hc => by
             first
              | rfl
              | exact get_map (by assumption)
              | assumption
              | exact get_map (at_bang (by (try simp at hc) <;> omega))) (fun _ => rfl)) rfl ?_
          | refine dlw rfl rfl rfl (lop_load_ow (by
             first
              | exact W rfl (by
              first
               | exact id
               | simp)
              | exact E rfl) rfl sgT (fun hc => by
             first
              | rfl
              | exact get_map (by assumption)
              | assumption
              | exact get_map (at_bang (by (try simp at hc) <;> omega))) (fun _ => rfl)) rfl ?_
          | refine dlw rfl rfl rfl (lop_no (v := .bool false)) rfl ?_
        first | refine dln rfl rfl rfl rfl rfl ?_ | (refine dly rfl rfl rfl (lop_neq (by first | exact W rfl id | exact E rfl) (by first | exact W rfl id | exact E rfl)) rfl ?_) | refine dlg rfl rfl rfl (lop_neq (by first | exact W rfl (by first | exact id | simp) | exact E rfl) (by first | exact W rfl (by first | exact id | simp) | exact E rfl)) rfl ?_ | refine dlw rfl rfl rfl (lop_neq (by first | exact W rfl (by first | exact id | simp) | exact E rfl) (by first | exact W rfl (by first | exact id | simp) | exact E rfl)) rfl ?_ | refine dlw rfl rfl rfl (lop_no (v := .bool false)) rfl ?_
        first | refine dln rfl rfl rfl rfl rfl ?_ | (first | refine dly rfl rfl rfl (lop_pick_t (by first | exact W rfl id | exact E rfl) (E rfl)) rfl ?_ | refine dly rfl rfl rfl (lop_pick_f (by first | exact W rfl id | exact E rfl) (by first | exact W rfl (by simp) | exact E rfl)) rfl ?_ | refine dly rfl rfl rfl (lop_pick (by first | exact W rfl id | exact E rfl) (E rfl) (by first | exact W rfl (by simp) | exact E rfl)) rfl ?_) | refine dlg rfl rfl rfl (lop_pick_t (by first | exact W rfl id | exact E rfl) (E rfl)) rfl ?_ | refine dlg rfl rfl rfl (lop_pick_f (by first | exact W rfl id | exact E rfl) (by first | exact W rfl (by simp) | exact E rfl)) rfl ?_ | refine dlg rfl rfl rfl (lop_pick (by first | exact W rfl id | exact E rfl) (E rfl) (by first | exact W rfl (by simp) | exact E rfl)) rfl ?_
        refine z160 ?_
        refine deT ?_
        (refine ctlT ?_)
        refine rgT ?_
        refine lo (lop_move (E rfl)) rfl ?_
        refine z17 ?_
        refine lo (lop_assign (E rfl)) rfl ?_
        refine leT ?_
        (refine ctlT ?_)
        refine ⟨j + 1, hlt, by show s.all.length - (j + 1) < s.all.length - j; omega, ?_⟩
        (exact sgoT)
      · rw [hp]
        have hw0 : (B.map insO)[p]? = some (insO w) := by rw [List.getElem?_map, hw]; rfl
        have hw2 := nat_at hw0
        have hpl := (List.getElem?_eq_some_iff.1 hw).1
        refine rgD [(0, true), (1, true), (2, true), (3, true), (4, true), (5, true), (6, true), (7, true), (8, true), (9, true), (10, true), (11, true), (12, true), (13, true), (14, true), (15, true), (16, true), (17, true), (18, true), (19, true), (20, true), (21, true), (22, true), (23, true), (24, true), (25, true), (26, true), (27, true), (28, true), (29, true), (30, true), (31, true), (32, true), (33, true), (34, true), (35, true), (36, true), (37, true), (38, true), (39, true), (40, true)] ?_
        refine dlo rfl (lop_move (E rfl)) rfl ?_
        refine dlo rfl (lop_move (E rfl)) rfl ?_
        refine z56 ?_
        refine z161 ?_
        refine z57 ?_
        refine z82 ?_
        rw [hp]
        refine dlo rfl (lop_move (E rfl)) rfl ?_
        refine dlo rfl (lop_move (E rfl)) rfl ?_
        refine z56 ?_
        refine z161 ?_
        refine z57 ?_
        refine dlo rfl (lop_gtr (E rfl) (E rfl)) rfl ?_
        rw [show decide ((b.at_ : Int) < (p : Int)) = true from decide_eq_true ha1]
        refine dlo rfl (lop_move (E rfl)) rfl ?_
        refine z156 ?_
        refine z156 ?_
        refine z156 ?_
        refine z157 ?_
        refine z170 ?_
        refine z158 ?_
        first | refine dln rfl rfl rfl rfl rfl ?_ | (first | refine dly rfl rfl rfl (lop_sub64 (by first | exact W rfl id | exact E rfl) (E rfl) (by omega) (by omega)) rfl ?_ | refine dly rfl rfl rfl (lop_sub (by first | exact W rfl id | exact E rfl) (E rfl)) rfl ?_) | refine dlg rfl rfl rfl (lop_sub64 (by first | exact W rfl id | exact E rfl) (E rfl) (by omega) (by omega)) rfl ?_ | refine dlg rfl rfl rfl (lop_sub64c (by first | exact W rfl id | exact E rfl) (E rfl) (fun hc => by simp at hc <;> first | omega | (have hov := hov hc; omega))) rfl ?_ | refine dlg rfl rfl rfl (lop_sub (by first | exact W rfl id | exact E rfl) (E rfl)) rfl ?_
        rw [hp]
        refine z157 ?_
        refine z170 ?_
        refine z158 ?_
        first | refine dln rfl rfl rfl rfl rfl ?_ | (refine dly rfl rfl rfl (lop_eql (by first | exact W rfl id | exact E rfl) (E rfl)) rfl ?_) | refine dlg rfl rfl rfl (lop_eql (by first | exact W rfl id | exact E rfl) (E rfl)) rfl ?_
        rw [show ((insO w).op == 1) = false from beq_eq_false_iff_ne.2 hw1]
        refine z160 ?_
        refine dlo rfl (lop_move (E rfl)) rfl ?_
        refine z156 ?_
        first | refine dln rfl rfl rfl rfl rfl ?_ | (first | refine dly rfl rfl rfl (lop_len_map (by first | exact W rfl id | exact E rfl)) rfl ?_ | refine dly rfl rfl rfl (lop_len_ro (by first | exact W rfl id | exact E rfl)) rfl ?_ | refine dly rfl rfl rfl (lop_len_own (by first | exact W rfl id | exact E rfl)) rfl ?_) | refine dlg rfl rfl rfl (lop_len_map (by first | exact W rfl id | exact E rfl)) rfl ?_ | refine dlg rfl rfl rfl (lop_len_ro (by first | exact W rfl id | exact E rfl)) rfl ?_ | refine dlg rfl rfl rfl (lop_len_own (by first | exact W rfl id | exact E rfl)) rfl ?_
        first | refine dln rfl rfl rfl rfl rfl ?_ | (refine dly rfl rfl rfl (lop_eql (by first | exact W rfl id | exact E rfl) (E rfl)) rfl ?_) | refine dlg rfl rfl rfl (lop_eql (by first | exact W rfl id | exact E rfl) (E rfl)) rfl ?_
        first | refine dln rfl rfl rfl rfl rfl ?_ | (refine dly rfl rfl rfl (lop_move (by first | exact W rfl id | exact E rfl)) rfl ?_) | refine dlg rfl rfl rfl (lop_move (by first | exact W rfl id | exact E rfl)) rfl ?_
        first | refine dln rfl rfl rfl rfl rfl ?_ | (refine dly rfl rfl rfl (lop_move (E rfl)) rfl ?_) | refine dlg rfl rfl rfl (lop_move (E rfl)) rfl ?_ | refine dlw rfl rfl rfl (lop_move (E rfl)) rfl ?_ | refine dlw rfl rfl rfl (lop_no (v := .bool false)) rfl ?_
        first
          | refine dln rfl rfl rfl rfl rfl ?_
          | (
            first
             | refine dly rfl rfl rfl (lop_index_ro (by
              first
               | exact W rfl id
               | exact E rfl) (E rfl) (fun hc => by (simp only [List.length_map]; omega))) rfl ?_
             | refine dly rfl rfl rfl (lop_index_own0 (by
              first
               | exact W rfl id
               | exact E rfl) sgT (E rfl) (fun hc => by omega)) rfl ?_
             | refine dly rfl rfl rfl (lop_index_own (by
              first
               | exact W rfl id
               | exact E rfl) sgT (E rfl) (fun hc => by omega)) rfl ?_)
          | refine dlg rfl rfl rfl (lop_index_ro (by
             first
              | exact W rfl (by
              first
               | exact id
               | simp)
              | exact E rfl) (E rfl) (fun hc => by (try simp at hc) <;> (simp only [List.length_map]; omega))) rfl ?_
          | refine dlg rfl rfl rfl (lop_index_own0 (by
             first
              | exact W rfl (by
              first
               | exact id
               | simp)
              | exact E rfl) sgT (E rfl) (fun hc => by (try simp at hc) <;> omega)) rfl ?_
          | refine dlg rfl rfl rfl (lop_index_own (by
             first
              | exact W rfl (by
              first
               | exact id
               | simp)
              | exact E rfl) sgT (E rfl) (fun hc => by (try simp at hc) <;> omega)) rfl ?_
          | refine dlw rfl rfl rfl (lop_index_ro (by
             first
              | exact W rfl (by
              first
               | exact id
               | simp)
              | exact E rfl) (E rfl) (fun hc => by (try simp at hc) <;> (simp only [List.length_map]; omega))) rfl ?_
          | refine dlw rfl rfl rfl (lop_index_own0 (by
             first
              | exact W rfl (by
              first
               | exact id
               | simp)
              | exact E rfl) sgT (E rfl) (fun hc => by (try simp at hc) <;> omega)) rfl ?_
          | refine dlw rfl rfl rfl (lop_index_own (by
             first
              | exact W rfl (by
              first
               | exact id
               | simp)
              | exact E rfl) sgT (E rfl) (fun hc => by (try simp at hc) <;> omega)) rfl ?_
          | refine dlw rfl rfl rfl (lop_no (v := .bool false)) rfl ?_
        first
          | refine dln rfl rfl rfl rfl rfl ?_
          | (
            first
             | refine dly rfl rfl rfl (lop_load_el (by
              first
               | exact W rfl id
               | exact E rfl) rfl (fun hc => by
              first
               | rfl
               | exact get_map (by assumption)
               | assumption
               | exact get_map (at_bang (by omega))) (fun _ => rfl)) rfl ?_
             | refine dly rfl rfl rfl (lop_load_ow (by
              first
               | exact W rfl id
               | exact E rfl) rfl sgT (fun hc => by
              first
               | rfl
               | exact get_map (by assumption)
               | assumption
               | exact get_map (at_bang (by omega))) (fun _ => rfl)) rfl ?_)
          | refine dlg rfl rfl rfl (lop_load_el (by
             first
              | exact W rfl (by
              first
               | exact id
               | simp)
              | exact E rfl) rfl (fun hc => by
             first
              | rfl
              | exact get_map (by assumption)
              | assumption
              | exact get_map (at_bang (by (try simp at hc) <;> omega))) (fun _ => rfl)) rfl ?_
          | refine dlg rfl rfl rfl (lop_load_ow (by
             first
              | exact W rfl (by
              first
               | exact id
               | simp)
              | exact E rfl) rfl sgT (fun hc => by
             first
              | rfl
              | exact get_map (by assumption)
              | assumption
              | exact get_map (at_bang (by (try simp at hc) <;> omega))) (fun _ => rfl)) rfl ?_
          | refine dlw rfl rfl rfl (lop_load_el (by
             first
              | exact W rfl (by
              first
               | exact id
               | simp)
              | exact E rfl) rfl (fun hc => by
             first
              | rfl
              | exact get_map (by assumption)
              | assumption
              | exact get_map (at_bang (by (try simp at hc) <;> omega))) (fun _ => rfl)) rfl ?_
          | refine dlw rfl rfl rfl (lop_load_ow (by
             first
              | exact W rfl (by
              first
               | exact id
               | simp)
              | exact E rfl) rfl sgT (fun hc => by
             first
              | rfl
              | exact get_map (by assumption)
              | assumption
              | exact get_map (at_bang (by (try simp at hc) <;> omega))) (fun _ => rfl)) rfl ?_
          | refine dlw rfl rfl rfl (lop_no (v := .bool false)) rfl ?_
        first | refine dln rfl rfl rfl rfl rfl ?_ | (refine dly rfl rfl rfl (lop_move (E rfl)) rfl ?_) | refine dlg rfl rfl rfl (lop_move (E rfl)) rfl ?_ | refine dlw rfl rfl rfl (lop_move (E rfl)) rfl ?_ | refine dlw rfl rfl rfl (lop_no (v := .bool false)) rfl ?_
        first | refine dln rfl rfl rfl rfl rfl ?_ | (refine dly rfl rfl rfl (lop_move (E rfl)) rfl ?_) | refine dlg rfl rfl rfl (lop_move (E rfl)) rfl ?_ | refine dlw rfl rfl rfl (lop_move (E rfl)) rfl ?_ | refine dlw rfl rfl rfl (lop_no (v := .bool false)) rfl ?_
        first
          | refine dln rfl rfl rfl rfl rfl ?_
          | (
            first
             | refine dly rfl rfl rfl (lop_index_ro (by
              first
               | exact W rfl id
               | exact E rfl) (by
              first
               | exact W rfl id
               | exact E rfl) (fun hc => by (simp only [List.length_map]; omega))) rfl ?_
             | refine dly rfl rfl rfl (lop_index_own0 (by
              first
               | exact W rfl id
               | exact E rfl) sgT (by
              first
               | exact W rfl id
               | exact E rfl) (fun hc => by omega)) rfl ?_
             | refine dly rfl rfl rfl (lop_index_own (by
              first
               | exact W rfl id
               | exact E rfl) sgT (by
              first
               | exact W rfl id
               | exact E rfl) (fun hc => by omega)) rfl ?_)
          | refine dlg rfl rfl rfl (lop_index_ro (by
             first
              | exact W rfl (by
              first
               | exact id
               | simp)
              | exact E rfl) (by
             first
              | exact W rfl (by
              first
               | exact id
               | simp)
              | exact E rfl) (fun hc => by (try simp at hc) <;> (simp only [List.length_map]; omega))) rfl ?_
          | refine dlg rfl rfl rfl (lop_index_own0 (by
             first
              | exact W rfl (by
              first
               | exact id
               | simp)
              | exact E rfl) sgT (by
             first
              | exact W rfl (by
              first
               | exact id
               | simp)
              | exact E rfl) (fun hc => by (try simp at hc) <;> omega)) rfl ?_
          | refine dlg rfl rfl rfl (lop_index_own (by
             first
              | exact W rfl (by
              first
               | exact id
               | simp)
              | exact E rfl) sgT (by
             first
              | exact W rfl (by
              first
               | exact id
               | simp)
              | exact E rfl) (fun hc => by (try simp at hc) <;> omega)) rfl ?_
          | refine dlw rfl rfl rfl (lop_index_ro (by
             first
              | exact W rfl (by
              first
               | exact id
               | simp)
              | exact E rfl) (by
             first
              | exact W rfl (by
              first
               | exact id
               | simp)
              | exact E rfl) (fun hc => by (try simp at hc) <;> (simp only [List.length_map]; omega))) rfl ?_
          | refine dlw rfl rfl rfl (lop_index_own0 (by
             first
              | exact W rfl (by
              first
               | exact id
               | simp)
              | exact E rfl) sgT (by
             first
              | exact W rfl (by
              first
               | exact id
               | simp)
              | exact E rfl) (fun hc => by (try simp at hc) <;> omega)) rfl ?_
          | refine dlw rfl rfl rfl (lop_index_own (by
             first
              | exact W rfl (by
              first
               | exact id
               | simp)
              | exact E rfl) sgT (by
             first
              | exact W rfl (by
              first
               | exact id
               | simp)
              | exact E rfl) (fun hc => by (try simp at hc) <;> omega)) rfl ?_
          | refine dlw rfl rfl rfl (lop_no (v := .bool false)) rfl ?_
        first | refine dln rfl rfl rfl rfl rfl ?_ | (first | refine dly rfl rfl rfl (lop_field_el (by first | exact W rfl id | exact E rfl) rfl (by decide)) rfl ?_ | refine dly rfl rfl rfl (lop_field_ow (by first | exact W rfl id | exact E rfl) rfl (by decide)) rfl ?_) | refine dlg rfl rfl rfl (lop_field_el (by first | exact W rfl (by first | exact id | simp) | exact E rfl) rfl (by decide)) rfl ?_ | refine dlg rfl rfl rfl (lop_field_ow (by first | exact W rfl (by first | exact id | simp) | exact E rfl) rfl (by decide)) rfl ?_ | refine dlw rfl rfl rfl (lop_field_el (by first | exact W rfl (by first | exact id | simp) | exact E rfl) rfl (by decide)) rfl ?_ | refine dlw rfl rfl rfl (lop_field_ow (by first | exact W rfl (by first | exact id | simp) | exact E rfl) rfl (by decide)) rfl ?_ | refine dlw rfl rfl rfl (lop_no (v := .bool false)) rfl ?_
        first
          | refine dln rfl rfl rfl rfl rfl ?_
          | (
            first
             | refine dly rfl rfl rfl (lop_load_el (by
              first
               | exact W rfl id
               | exact E rfl) rfl (fun hc => by
              first
               | rfl
               | exact get_map (by assumption)
               | assumption
               | exact get_map (at_bang (by omega))) (fun _ => rfl)) rfl ?_
             | refine dly rfl rfl rfl (lop_load_ow (by
              first
               | exact W rfl id
               | exact E rfl) rfl sgT (fun hc => by
              first
               | rfl
               | exact get_map (by assumption)
               | assumption
               | exact get_map (at_bang (by omega))) (fun _ => rfl)) rfl ?_)
          | refine dlg rfl rfl rfl (lop_load_el (by
             first
              | exact W rfl (by
              first
               | exact id
               | simp)
              | exact E rfl) rfl (fun hc => by
             first
              | rfl
              | exact get_map (by assumption)
              | assumption
              | exact get_map (at_bang (by (try simp at hc) <;> omega))) (fun _ => rfl)) rfl ?_
          | refine dlg rfl rfl rfl (lop_load_ow (by
             first
              | exact W rfl (by
              first
               | exact id
               | simp)
              | exact E rfl) rfl sgT (fun hc => by
             first
              | rfl
              | exact get_map (by assumption)
              | assumption
              | exact get_map (at_bang (by (try simp at hc) <;> omega))) (fun _ => rfl)) rfl ?_
          | refine dlw rfl rfl rfl (lop_load_el (by
             first
              | exact W rfl (by
              first
               | exact id
               | simp)
              | exact E rfl) rfl (fun hc => by
             first
              | rfl
              | exact get_map (by assumption)
              | assumption
              | exact get_map (at_bang (by (try simp at hc) <;> omega))) (fun _ => rfl)) rfl ?_
          | refine dlw rfl rfl rfl (lop_load_ow (by
             first
              | exact W rfl (by
              first
               | exact id
               | simp)
              | exact E rfl) rfl sgT (fun hc => by
             first
              | rfl
              | exact get_map (by assumption)
              | assumption
              | exact get_map (at_bang (by (try simp at hc) <;> omega))) (fun _ => rfl)) rfl ?_
          | refine dlw rfl rfl rfl (lop_no (v := .bool false)) rfl ?_
        first | refine dln rfl rfl rfl rfl rfl ?_ | (refine dly rfl rfl rfl (lop_neq (by first | exact W rfl id | exact E rfl) (by first | exact W rfl id | exact E rfl)) rfl ?_) | refine dlg rfl rfl rfl (lop_neq (by first | exact W rfl (by first | exact id | simp) | exact E rfl) (by first | exact W rfl (by first | exact id | simp) | exact E rfl)) rfl ?_ | refine dlw rfl rfl rfl (lop_neq (by first | exact W rfl (by first | exact id | simp) | exact E rfl) (by first | exact W rfl (by first | exact id | simp) | exact E rfl)) rfl ?_ | refine dlw rfl rfl rfl (lop_no (v := .bool false)) rfl ?_
        first | refine dln rfl rfl rfl rfl rfl ?_ | (first | refine dly rfl rfl rfl (lop_pick_t (by first | exact W rfl id | exact E rfl) (E rfl)) rfl ?_ | refine dly rfl rfl rfl (lop_pick_f (by first | exact W rfl id | exact E rfl) (by first | exact W rfl (by simp) | exact E rfl)) rfl ?_ | refine dly rfl rfl rfl (lop_pick (by first | exact W rfl id | exact E rfl) (E rfl) (by first | exact W rfl (by simp) | exact E rfl)) rfl ?_) | refine dlg rfl rfl rfl (lop_pick_t (by first | exact W rfl id | exact E rfl) (E rfl)) rfl ?_ | refine dlg rfl rfl rfl (lop_pick_f (by first | exact W rfl id | exact E rfl) (by first | exact W rfl (by simp) | exact E rfl)) rfl ?_ | refine dlg rfl rfl rfl (lop_pick (by first | exact W rfl id | exact E rfl) (E rfl) (by first | exact W rfl (by simp) | exact E rfl)) rfl ?_
        refine z160 ?_
        refine deT ?_
        (refine ctlT ?_)
        refine rgT ?_
        refine lo (lop_move (E rfl)) rfl ?_
        refine z17 ?_
        refine lo (lop_assign (E rfl)) rfl ?_
        refine leT ?_
        (refine ctlT ?_)
        refine ⟨j + 1, hlt, by show s.all.length - (j + 1) < s.all.length - j; omega, ?_⟩
        (exact sgoT)
      · rw [hp, ht]
        have hw0 : (B.map insO)[p]? = some (insO 1) := by rw [List.getElem?_map, hw1]; rfl
        have hw2 := nat_at hw0
        have hpl := (List.getElem?_eq_some_iff.1 hw1).1
        have htl : ((b.at_ : Int) :: t).length = t.length + 1 := rfl
        have ht0 : ((b.at_ : Int) :: t)[(0 : Int).toNat]? = some (b.at_ : Int) := rfl
        refine rgD [(0, true), (1, true), (2, true), (3, true), (4, true), (5, true), (6, true), (7, true), (8, true), (9, true), (10, true), (11, true), (12, true), (13, true), (14, true), (15, true), (16, true), (17, true), (18, true), (19, true), (20, true), (21, true), (22, true), (23, true), (24, true), (25, true), (26, true), (27, true), (28, true), (29, true), (30, true), (31, true), (32, true), (33, true), (34, true), (35, true), (36, true), (37, true), (38, true), (39, true), (40, true)] ?_
        refine dlo rfl (lop_move (E rfl)) rfl ?_
        refine dlo rfl (lop_move (E rfl)) rfl ?_
        refine z56 ?_
        refine z161 ?_
        refine z57 ?_
        refine z82 ?_
        rw [hp]
        refine dlo rfl (lop_move (E rfl)) rfl ?_
        refine dlo rfl (lop_move (E rfl)) rfl ?_
        refine z56 ?_
        refine z161 ?_
        refine z57 ?_
        refine dlo rfl (lop_gtr (E rfl) (E rfl)) rfl ?_
        rw [show decide ((b.at_ : Int) < (p : Int)) = true from decide_eq_true ha1]
        refine dlo rfl (lop_move (E rfl)) rfl ?_
        refine z156 ?_
        refine z156 ?_
        refine z156 ?_
        refine z157 ?_
        refine z170 ?_
        refine z158 ?_
        first | refine dln rfl rfl rfl rfl rfl ?_ | (first | refine dly rfl rfl rfl (lop_sub64 (by first | exact W rfl id | exact E rfl) (E rfl) (by omega) (by omega)) rfl ?_ | refine dly rfl rfl rfl (lop_sub (by first | exact W rfl id | exact E rfl) (E rfl)) rfl ?_) | refine dlg rfl rfl rfl (lop_sub64 (by first | exact W rfl id | exact E rfl) (E rfl) (by omega) (by omega)) rfl ?_ | refine dlg rfl rfl rfl (lop_sub64c (by first | exact W rfl id | exact E rfl) (E rfl) (fun hc => by simp at hc <;> first | omega | (have hov := hov hc; omega))) rfl ?_ | refine dlg rfl rfl rfl (lop_sub (by first | exact W rfl id | exact E rfl) (E rfl)) rfl ?_
        rw [hp]
        refine z157 ?_
        refine z170 ?_
        refine z158 ?_
        first | refine dln rfl rfl rfl rfl rfl ?_ | (refine dly rfl rfl rfl (lop_eql (by first | exact W rfl id | exact E rfl) (E rfl)) rfl ?_) | refine dlg rfl rfl rfl (lop_eql (by first | exact W rfl id | exact E rfl) (E rfl)) rfl ?_
        rw [show ((insO 1).op == 1) = true from rfl]
        refine z160 ?_
        refine dlo rfl (lop_move (E rfl)) rfl ?_
        refine z156 ?_
        first | refine dln rfl rfl rfl rfl rfl ?_ | (first | refine dly rfl rfl rfl (lop_len_map (by first | exact W rfl id | exact E rfl)) rfl ?_ | refine dly rfl rfl rfl (lop_len_ro (by first | exact W rfl id | exact E rfl)) rfl ?_ | refine dly rfl rfl rfl (lop_len_own (by first | exact W rfl id | exact E rfl)) rfl ?_) | refine dlg rfl rfl rfl (lop_len_map (by first | exact W rfl id | exact E rfl)) rfl ?_ | refine dlg rfl rfl rfl (lop_len_ro (by first | exact W rfl id | exact E rfl)) rfl ?_ | refine dlg rfl rfl rfl (lop_len_own (by first | exact W rfl id | exact E rfl)) rfl ?_
        first | refine dln rfl rfl rfl rfl rfl ?_ | (refine dly rfl rfl rfl (lop_eql (by first | exact W rfl id | exact E rfl) (E rfl)) rfl ?_) | refine dlg rfl rfl rfl (lop_eql (by first | exact W rfl id | exact E rfl) (E rfl)) rfl ?_
        rw [show ((((b.at_ : Int) :: t).length : Int) == 0) = false from beq_eq_false_iff_ne.2 (by omega)]
        first | refine dln rfl rfl rfl rfl rfl ?_ | (refine dly rfl rfl rfl (lop_move (by first | exact W rfl id | exact E rfl)) rfl ?_) | refine dlg rfl rfl rfl (lop_move (by first | exact W rfl id | exact E rfl)) rfl ?_
        first | refine dln rfl rfl rfl rfl rfl ?_ | (refine dly rfl rfl rfl (lop_move (E rfl)) rfl ?_) | refine dlg rfl rfl rfl (lop_move (E rfl)) rfl ?_ | refine dlw rfl rfl rfl (lop_move (E rfl)) rfl ?_ | refine dlw rfl rfl rfl (lop_no (v := .bool false)) rfl ?_
        first
          | refine dln rfl rfl rfl rfl rfl ?_
          | (
            first
             | refine dly rfl rfl rfl (lop_index_ro (by
              first
               | exact W rfl id
               | exact E rfl) (E rfl) (fun hc => by (simp only [List.length_map]; omega))) rfl ?_
             | refine dly rfl rfl rfl (lop_index_own0 (by
              first
               | exact W rfl id
               | exact E rfl) sgT (E rfl) (fun hc => by omega)) rfl ?_
             | refine dly rfl rfl rfl (lop_index_own (by
              first
               | exact W rfl id
               | exact E rfl) sgT (E rfl) (fun hc => by omega)) rfl ?_)
          | refine dlg rfl rfl rfl (lop_index_ro (by
             first
              | exact W rfl (by
              first
               | exact id
               | simp)
              | exact E rfl) (E rfl) (fun hc => by (try simp at hc) <;> (simp only [List.length_map]; omega))) rfl ?_
          | refine dlg rfl rfl rfl (lop_index_own0 (by
             first
              | exact W rfl (by
              first
               | exact id
               | simp)
              | exact E rfl) sgT (E rfl) (fun hc => by (try simp at hc) <;> omega)) rfl ?_
          | refine dlg rfl rfl rfl (lop_index_own (by
             first
              | exact W rfl (by
              first
               | exact id
               | simp)
              | exact E rfl) sgT (E rfl) (fun hc => by (try simp at hc) <;> omega)) rfl ?_
          | refine dlw rfl rfl rfl (lop_index_ro (by
             first
              | exact W rfl (by
              first
               | exact id
               | simp)
              | exact E rfl) (E rfl) (fun hc => by (try simp at hc) <;> (simp only [List.length_map]; omega))) rfl ?_
          | refine dlw rfl rfl rfl (lop_index_own0 (by
             first
              | exact W rfl (by
              first
               | exact id
               | simp)
              | exact E rfl) sgT (E rfl) (fun hc => by (try simp at hc) <;> omega)) rfl ?_
          | refine dlw rfl rfl rfl (lop_index_own (by
             first
              | exact W rfl (by
              first
               | exact id
               | simp)
              | exact E rfl) sgT (E rfl) (fun hc => by (try simp at hc) <;> omega)) rfl ?_
          | refine dlw rfl rfl rfl (lop_no (v := .bool false)) rfl ?_
        first
          | refine dln rfl rfl rfl rfl rfl ?_
          | (
            first
             | refine dly rfl rfl rfl (lop_load_el (by
              first
               | exact W rfl id
               | exact E rfl) rfl (fun hc => by
              first
               | rfl
               | exact get_map (by assumption)
               | assumption
               | exact get_map (at_bang (by omega))) (fun _ => rfl)) rfl ?_
             | refine dly rfl rfl rfl (lop_load_ow (by
              first
               | exact W rfl id
               | exact E rfl) rfl sgT (fun hc => by
              first
               | rfl
               | exact get_map (by assumption)
               | assumption
               | exact get_map (at_bang (by omega))) (fun _ => rfl)) rfl ?_)
          | refine dlg rfl rfl rfl (lop_load_el (by
             first
              | exact W rfl (by
              first
               | exact id
               | simp)
              | exact E rfl) rfl (fun hc => by
             first
              | rfl
              | exact get_map (by assumption)
              | assumption
              | exact get_map (at_bang (by (try simp at hc) <;> omega))) (fun _ => rfl)) rfl ?_
          | refine dlg rfl rfl rfl (lop_load_ow (by
             first
              | exact W rfl (by
              first
               | exact id
               | simp)
              | exact E rfl) rfl sgT (fun hc => by
             first
              | rfl
              | exact get_map (by assumption)
              | assumption
              | exact get_map (at_bang (by (try simp at hc) <;> omega))) (fun _ => rfl)) rfl ?_
          | refine dlw rfl rfl rfl (lop_load_el (by
             first
              | exact W rfl (by
              first
               | exact id
               | simp)
              | exact E rfl) rfl (fun hc => by
             first
              | rfl
              | exact get_map (by assumption)
              | assumption
              | exact get_map (at_bang (by (try simp at hc) <;> omega))) (fun _ => rfl)) rfl ?_
          | refine dlw rfl rfl rfl (lop_load_ow (by
             first
              | exact W rfl (by
              first
               | exact id
               | simp)
              | exact E rfl) rfl sgT (fun hc => by
             first
              | rfl
              | exact get_map (by assumption)
              | assumption
              | exact get_map (at_bang (by (try simp at hc) <;> omega))) (fun _ => rfl)) rfl ?_
          | refine dlw rfl rfl rfl (lop_no (v := .bool false)) rfl ?_
        first | refine dln rfl rfl rfl rfl rfl ?_ | (refine dly rfl rfl rfl (lop_move (E rfl)) rfl ?_) | refine dlg rfl rfl rfl (lop_move (E rfl)) rfl ?_ | refine dlw rfl rfl rfl (lop_move (E rfl)) rfl ?_ | refine dlw rfl rfl rfl (lop_no (v := .bool false)) rfl ?_
        first | refine dln rfl rfl rfl rfl rfl ?_ | (refine dly rfl rfl rfl (lop_move (E rfl)) rfl ?_) | refine dlg rfl rfl rfl (lop_move (E rfl)) rfl ?_ | refine dlw rfl rfl rfl (lop_move (E rfl)) rfl ?_ | refine dlw rfl rfl rfl (lop_no (v := .bool false)) rfl ?_
        first
          | refine dln rfl rfl rfl rfl rfl ?_
          | (
            first
             | refine dly rfl rfl rfl (lop_index_ro (by
              first
               | exact W rfl id
               | exact E rfl) (by
              first
               | exact W rfl id
               | exact E rfl) (fun hc => by (simp only [List.length_map]; omega))) rfl ?_
             | refine dly rfl rfl rfl (lop_index_own0 (by
              first
               | exact W rfl id
               | exact E rfl) sgT (by
              first
               | exact W rfl id
               | exact E rfl) (fun hc => by omega)) rfl ?_
             | refine dly rfl rfl rfl (lop_index_own (by
              first
               | exact W rfl id
               | exact E rfl) sgT (by
              first
               | exact W rfl id
               | exact E rfl) (fun hc => by omega)) rfl ?_)
          | refine dlg rfl rfl rfl (lop_index_ro (by
             first
              | exact W rfl (by
              first
               | exact id
               | simp)
              | exact E rfl) (by
             first
              | exact W rfl (by
              first
               | exact id
               | simp)
              | exact E rfl) (fun hc => by (try simp at hc) <;> (simp only [List.length_map]; omega))) rfl ?_
          | refine dlg rfl rfl rfl (lop_index_own0 (by
             first
              | exact W rfl (by
              first
               | exact id
               | simp)
              | exact E rfl) sgT (by
             first
              | exact W rfl (by
              first
               | exact id
               | simp)
              | exact E rfl) (fun hc => by (try simp at hc) <;> omega)) rfl ?_
          | refine dlg rfl rfl rfl (lop_index_own (by
             first
              | exact W rfl (by
              first
               | exact id
               | simp)
              | exact E rfl) sgT (by
             first
              | exact W rfl (by
              first
               | exact id
               | simp)
              | exact E rfl) (fun hc => by (try simp at hc) <;> omega)) rfl ?_
          | refine dlw rfl rfl rfl (lop_index_ro (by
             first
              | exact W rfl (by
              first
               | exact id
               | simp)
              | exact E rfl) (by
             first
              | exact W rfl (by
              first
               | exact id
               | simp)
              | exact E rfl) (fun hc => by (try simp at hc) <;> (simp only [List.length_map]; omega))) rfl ?_
          | refine dlw rfl rfl rfl (lop_index_own0 (by
             first
              | exact W rfl (by
              first
               | exact id
               | simp)
              | exact E rfl) sgT (by
             first
              | exact W rfl (by
              first
               | exact id
               | simp)
              | exact E rfl) (fun hc => by (try simp at hc) <;> omega)) rfl ?_
          | refine dlw rfl rfl rfl (lop_index_own (by
             first
              | exact W rfl (by
              first
               | exact id
               | simp)
              | exact E rfl) sgT (by
             first
              | exact W rfl (by
              first
               | exact id
               | simp)
              | exact E rfl) (fun hc => by (try simp at hc) <;> omega)) rfl ?_
          | refine dlw rfl rfl rfl (lop_no (v := .bool false)) rfl ?_
        first | refine dln rfl rfl rfl rfl rfl ?_ | (first | refine dly rfl rfl rfl (lop_field_el (by first | exact W rfl id | exact E rfl) rfl (by decide)) rfl ?_ | refine dly rfl rfl rfl (lop_field_ow (by first | exact W rfl id | exact E rfl) rfl (by decide)) rfl ?_) | refine dlg rfl rfl rfl (lop_field_el (by first | exact W rfl (by first | exact id | simp) | exact E rfl) rfl (by decide)) rfl ?_ | refine dlg rfl rfl rfl (lop_field_ow (by first | exact W rfl (by first | exact id | simp) | exact E rfl) rfl (by decide)) rfl ?_ | refine dlw rfl rfl rfl (lop_field_el (by first | exact W rfl (by first | exact id | simp) | exact E rfl) rfl (by decide)) rfl ?_ | refine dlw rfl rfl rfl (lop_field_ow (by first | exact W rfl (by first | exact id | simp) | exact E rfl) rfl (by decide)) rfl ?_ | refine dlw rfl rfl rfl (lop_no (v := .bool false)) rfl ?_
        first
          | refine dln rfl rfl rfl rfl rfl ?_
          | (
            first
             | refine dly rfl rfl rfl (lop_load_el (by
              first
               | exact W rfl id
               | exact E rfl) rfl (fun hc => by
              first
               | rfl
               | exact get_map (by assumption)
               | assumption
               | exact get_map (at_bang (by omega))) (fun _ => rfl)) rfl ?_
             | refine dly rfl rfl rfl (lop_load_ow (by
              first
               | exact W rfl id
               | exact E rfl) rfl sgT (fun hc => by
              first
               | rfl
               | exact get_map (by assumption)
               | assumption
               | exact get_map (at_bang (by omega))) (fun _ => rfl)) rfl ?_)
          | refine dlg rfl rfl rfl (lop_load_el (by
             first
              | exact W rfl (by
              first
               | exact id
               | simp)
              | exact E rfl) rfl (fun hc => by
             first
              | rfl
              | exact get_map (by assumption)
              | assumption
              | exact get_map (at_bang (by (try simp at hc) <;> omega))) (fun _ => rfl)) rfl ?_
          | refine dlg rfl rfl rfl (lop_load_ow (by
             first
              | exact W rfl (by
              first
               | exact id
               | simp)
              | exact E rfl) rfl sgT (fun hc => by
             first
              | rfl
              | exact get_map (by assumption)
              | assumption
              | exact get_map (at_bang (by (try simp at hc) <;> omega))) (fun _ => rfl)) rfl ?_
          | refine dlw rfl rfl rfl (lop_load_el (by
             first
              | exact W rfl (by
              first
               | exact id
               | simp)
              | exact E rfl) rfl (fun hc => by
             first
              | rfl
              | exact get_map (by assumption)
              | assumption
              | exact get_map (at_bang (by (try simp at hc) <;> omega))) (fun _ => rfl)) rfl ?_
          | refine dlw rfl rfl rfl (lop_load_ow (by
             first
              | exact W rfl (by
              first
               | exact id
               | simp)
              | exact E rfl) rfl sgT (fun hc => by
             first
              | rfl
              | exact get_map (by assumption)
              | assumption
              | exact get_map (at_bang (by (try simp at hc) <;> omega))) (fun _ => rfl)) rfl ?_
          | refine dlw rfl rfl rfl (lop_no (v := .bool false)) rfl ?_
        first | refine dln rfl rfl rfl rfl rfl ?_ | (refine dly rfl rfl rfl (lop_neq (by first | exact W rfl id | exact E rfl) (by first | exact W rfl id | exact E rfl)) rfl ?_) | refine dlg rfl rfl rfl (lop_neq (by first | exact W rfl (by first | exact id | simp) | exact E rfl) (by first | exact W rfl (by first | exact id | simp) | exact E rfl)) rfl ?_ | refine dlw rfl rfl rfl (lop_neq (by first | exact W rfl (by first | exact id | simp) | exact E rfl) (by first | exact W rfl (by first | exact id | simp) | exact E rfl)) rfl ?_ | refine dlw rfl rfl rfl (lop_no (v := .bool false)) rfl ?_
        rw [show ((b.at_ : Int) != (b.at_ : Int)) = false by simp]
        first | refine dln rfl rfl rfl rfl rfl ?_ | (first | refine dly rfl rfl rfl (lop_pick_t (by first | exact W rfl id | exact E rfl) (E rfl)) rfl ?_ | refine dly rfl rfl rfl (lop_pick_f (by first | exact W rfl id | exact E rfl) (by first | exact W rfl (by simp) | exact E rfl)) rfl ?_ | refine dly rfl rfl rfl (lop_pick (by first | exact W rfl id | exact E rfl) (E rfl) (by first | exact W rfl (by simp) | exact E rfl)) rfl ?_) | refine dlg rfl rfl rfl (lop_pick_t (by first | exact W rfl id | exact E rfl) (E rfl)) rfl ?_ | refine dlg rfl rfl rfl (lop_pick_f (by first | exact W rfl id | exact E rfl) (by first | exact W rfl (by simp) | exact E rfl)) rfl ?_ | refine dlg rfl rfl rfl (lop_pick (by first | exact W rfl id | exact E rfl) (E rfl) (by first | exact W rfl (by simp) | exact E rfl)) rfl ?_
        refine z160 ?_
        refine deT ?_
        (refine ctlT ?_)
        refine rgT ?_
        refine lo (lop_move (E rfl)) rfl ?_
        refine z17 ?_
        refine lo (lop_assign (E rfl)) rfl ?_
        refine leT ?_
        (refine ctlT ?_)
        refine ⟨j + 1, hlt, by show s.all.length - (j + 1) < s.all.length - j; omega, ?_⟩
        (exact sgoT)
  (refine ctlT ?_)
  refine rgT ?_
  refine lo (lop_assign (E rfl)) rfl ?_
  refine leT ?_
  (refine ctlT ?_)
  (apply aend; (exact resT))
  · rfl
  · (exact stleT)
end Go.Proofs.Ytjpdadobblffmaa
