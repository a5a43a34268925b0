/-
  What the library's functions do that this seat reaches: slices.Insert at ints, off the shelf's contract.
-/
import Derived.Test.YtemehfolglcleaaTy
import Derived.Test.YtemehfolglcleaaSymP
import Derived.Shelf.Spec.SlicesInsertGrow
namespace Go.Proofs.Ytemehfolglcleaa
open Go.RowKit Go.ChangeShapes Go.WideShapes Go.ChangeAt Go.Deep
set_option linter.unusedSimpArgs false
set_option linter.unusedVariables false

def encI (n : Int) : List AV := [.int .i64 n]
def rhoI : Go.Shelf.Ren := ⟨fun n => if n = 21 then 27 else if n = 27 then 30 else if n = 28 then 31 else if n = 35 then 33 else if n = 39 then 34 else n,
  fun t => if t = 22 then 28 else if t = 3 then 3 else if t = 4 then 4 else if t = 0 then 0 else t, fun g => g⟩
theorem lays_ins : Lays2.n21 Try.prog rhoI where
  mixed := mixed
  f21 := (Try.func27).trans (by kernel_rfl)
  f27 := (Try.func30).trans (by kernel_rfl)
  f28 := (Try.func31).trans (by kernel_rfl)
  f35 := (Try.func33).trans (by kernel_rfl)
  f39 := (Try.func34).trans (by kernel_rfl)
  t0 := Try.underlying0
  a0 := Try.isAgg0
  z0 := Try.sizeOf0
  v0 := Try.zeroValue0
  t3 := Try.underlying3
  a3 := Try.isAgg3
  z3 := Try.sizeOf3
  v3 := Try.zeroValue3
  t4 := Try.underlying4
  a4 := Try.isAgg4
  z4 := Try.sizeOf4
  v4 := Try.zeroValue4
  t22 := Try.underlying28
  a22 := Try.isAgg28
  z22 := Try.sizeOf28
  v22 := Try.zeroValue28
  i3 := by kernel_rfl

section
variable {g : Nat} {e : TypeId}
theorem cl_setCell {w : World} {cur : Array Value} {o : Nat} {v : Value} (h : Cl w g e cur) : Cl (w.setCell ⟨g, o, none⟩ v) g e (cur.setIfInBounds o v) := by
  have hlt := h.lt
  unfold Cl at h ⊢
  simp only [World.setCell]
  rw [Array.getElem?_modify, if_pos rfl, h]
  rfl
theorem cl_setCells : ∀ (vs : List Value) (o : Nat) (w : World) (cur : Array Value), Cl w g e cur → ∃ cur', Cl (w.setCells g o vs) g e cur' ∧ cur'.size = cur.size ∧ ∀ j, j < cur.size → cur'[j]? = if o ≤ j ∧ j < o + vs.length then vs[j - o]? else cur[j]?
  | [], o, w, cur, h => ⟨cur, h, rfl, fun j _ => by rw [if_neg (by simp only [List.length_nil]; omega)]⟩
  | v :: r, o, w, cur, h => by
    obtain ⟨c2, h1, h2, h3⟩ := cl_setCells r (o + 1) _ _ (cl_setCell (o := o) (v := v) h)
    simp only [Array.size_setIfInBounds] at h2 h3
    refine ⟨c2, h1, h2, fun j hj => ?_⟩
    rw [h3 j hj]
    by_cases hjo : j = o
    · subst hjo
      rw [if_neg (by omega), if_pos (by simp)]
      simp [hj]
    · rw [Array.getElem?_setIfInBounds_ne (fun e => hjo e.symm)]
      by_cases hin : o + 1 ≤ j ∧ j < o + 1 + r.length
      · rw [if_pos hin, if_pos (by simp; omega), show j - o = (j - (o + 1)) + 1 by omega, List.getElem?_cons_succ]
      · rw [if_neg hin, if_neg (by simp; omega)]
theorem only_setCells : ∀ (vs : List Value) (o : Nat) (w : World), Only (fun k => k = g) w (w.setCells g o vs)
  | [], _, w => Only.refl _ _
  | v :: r, o, w => Only.trans ((Only.refl (fun k => k = g) w).setCell (p := ⟨g, o, none⟩) (fun _ => rfl) v) (only_setCells r (o + 1) _)
theorem size_setCells (vs : List Value) (o : Nat) (w : World) : (w.setCells g o vs).heap.size = w.heap.size := by
  induction vs generalizing o w with
  | nil => rfl
  | cons v r ih => rw [World.setCells, ih]; simp [World.setCell]
end
def insL (l : List Int) (i : Nat) (x : Int) : List Int := l.take i ++ x :: l.drop i
theorem insL_len {l : List Int} {i : Nat} {x : Int} (h : i ≤ l.length) : (insL l i x).length = l.length + 1 := by simp [insL]; omega
theorem insL_end {l : List Int} {x : Int} : insL l l.length x = l ++ [x] := by simp [insL]
theorem insL_at {l : List Int} {i : Nat} {x : Int} (h : i ≤ l.length) (j : Nat) : (insL l i x)[j]? = if j < i then l[j]? else if j = i then some x else l[j - 1]? := by
  unfold insL
  by_cases h1 : j < i
  · rw [if_pos h1, List.getElem?_append_left (by simp; omega), List.getElem?_take_of_lt h1]
  · rw [if_neg h1, List.getElem?_append_right (by simp; omega)]
    have hl : (l.take i).length = i := by simp; omega
    rw [hl]
    by_cases h2 : j = i
    · subst h2; simp
    · rw [if_neg h2, show j - i = (j - i - 1) + 1 by omega, List.getElem?_cons_succ, List.getElem?_drop]
      congr 1; omega
theorem intsV {M : Mp} {F : Nat → Prop} {w : World} {l : List Int} {vs : Array Value} (h : ∀ (i : Nat) (x : List AV) (j : Nat) (a : AV) (u : Value), (l.map encI)[i]? = some x → x[j]? = some a → vs[i * 1 + j]? = some u → VR M F w a u) (hs : l.length ≤ vs.size) (j : Nat) (n : Int) (hj : l[j]? = some n) : vs[j]? = some (.int .i64 n) := by
  have hlt := (List.getElem?_eq_some_iff.1 hj).1
  have h1 := h j (encI n) 0 (.int .i64 n) vs[j] (by rw [List.getElem?_map, hj]; rfl) rfl (by simp)
  rw [Array.getElem?_eq_getElem (by omega)]
  generalize vs[j] = u at h1
  cases h1
  rfl
theorem rows_int (l : List Int) : RowsOk 1 (l.map encI) := by
  intro x hx
  obtain ⟨n, _, rfl⟩ := List.mem_map.1 hx
  exact ⟨rfl, fun a ha => by obtain rfl := List.mem_singleton.1 ha; rfl⟩

theorem lib_insert_int {r v : Nat} (l : List Int) (i : Nat) (hi : i ≤ l.length) (x : Int) (hl : l.length ≤ 1000000) (hrv : Nq v r) : SCall Try.prog 27 [.own r 0 l.length, .int .i64 i, .own v 0 1] [(v, .arr 3 1 [encI x]), (r, .arr 3 1 (l.map encI))]
    (fun y σ' => ∃ q, (Nq q r ∧ Nq q v) ∧ y = .own q 0 (l.length + 1) ∧ σ' = [(q, .arr 3 1 ((insL l i x).map encI))]) := by
  intro M F N w vs hlen hv hs
  obtain ⟨u0, u1, u2, rfl⟩ : ∃ u0 u1 u2, vs = [u0, u1, u2] := by
    match vs, hlen with
    | [a, b, c], _ => exact ⟨a, b, c, rfl⟩
  have h0 := hv 0 _ _ rfl rfl
  have h1 := hv 1 _ _ rfl rfl
  have h2 := hv 2 _ _ rfl rfl
  cases h1
  have hnr := hs.name (p := (r, _)) (List.mem_cons_of_mem _ List.mem_cons_self)
  have hnv := hs.name (p := (v, _)) List.mem_cons_self
  simp only at hnr hnv
  have hmr : (r, Ent.arr 3 1 (l.map encI)) ∈ [(v, Ent.arr 3 1 [encI x]), (r, .arr 3 1 (l.map encI))] := by simp
  obtain ⟨_, _, hev⟩ := hs.ent _ (List.mem_cons_self)
  rcases hev with ⟨_, hev⟩ | ⟨vb, vc, vv, hMv, hClv, hsv, hlv, hmv, hrv'⟩
  · cases hev
  have hu2 : ∃ c', u2 = .slice (some ⟨vb, 0, none⟩) 1 c' := by
    cases h2 with
    | own hM hle hm =>
      rw [hMv] at hM
      cases hM
      exact ⟨vc - 0, by simp⟩
  obtain ⟨vc', rfl⟩ := hu2
  have hx0 : vv[0]? = some (.int .i64 x) := by
    have hpos : 0 < vv.size := by rw [hsv]; simp at hlv; omega
    have := hrv' 0 (encI x) 0 (.int .i64 x) vv[0] rfl rfl (by simp [hpos])
    rw [Array.getElem?_eq_getElem hpos]
    generalize vv[0] = u at this
    cases this
    rfl
  have hvs : ∀ (j : Nat) (u : Value), [Value.int .i64 x][j]? = some u → w.cell? ⟨vb, 0 + j, none⟩ = some u := by
    intro j u hj
    have hj0 : j = 0 := by have := (List.getElem?_eq_some_iff.1 hj).1; simpa using this
    subst hj0
    simp at hj
    subst hj
    rw [hClv.cell]
    simpa using hx0
  have h1v : ∀ u ∈ [Value.int .i64 x], u.oneCell' = true := fun u hu => by obtain rfl := List.mem_singleton.1 hu; rfl
  have h1c : ∀ u ∈ l.map (Value.int .i64), u.oneCell' = true := fun u hu => by obtain ⟨n, _, rfl⟩ := List.mem_map.1 hu; rfl
  have hbM : ∀ q b', M q = some b' → addM M N b' q = some b' → True := fun _ _ _ _ => trivial
  -- what is left, out of the new row
  have fin : ∀ (g c : Nat) (cur : Array Value) (w' : World), Only (fun k => blkOf M r = some k) w w' → (blkOf M r = some g ∨ w.heap.size ≤ g) → Cl w' g 3 cur → cur.size = c → l.length + 1 ≤ c → c ≤ maxLen → (∀ (j : Nat) (n : Int), (insL l i x)[j]? = some n → cur[j]? = some (Value.int .i64 n)) →
      ∃ v_1 x_1 M' F' N' σ', Ending.returned (Value.slice (some ⟨g, 0, none⟩) (l.length + 1) c) = .returned v_1 ∧ Ext M F N w [(v, Ent.arr 3 1 [encI x]), (r, .arr 3 1 (l.map encI))] M' F' N' w' σ' ∧ VR M' F' w' x_1 v_1 ∧ SR M' F' N' w' σ' ∧
        ∃ q, (Nq q r ∧ Nq q v) ∧ x_1 = .own q 0 (l.length + 1) ∧ σ' = [(q, .arr 3 1 ((insL l i x).map encI))] := by
    intro g c cur w' honly hg hcl hsz hlc hcm hcur
    have hr : Rel M F N 0 ⟨[], [(v, Ent.arr 3 1 [encI x]), (r, .arr 3 1 (l.map encI))]⟩ { tmps := #[], defers := [] } w := ⟨rfl, rfl, fun i x hi => by simp [fget] at hi, hs⟩
    have hE : ER (addM M N (.row g c 1)) F w' N (.arr 3 1 ((insL l i x).map encI)) := by
      refine ⟨Nat.one_pos, rows_int _, .inr ⟨g, c, cur, addM_new _, hcl, by simpa using hsz, by rw [List.length_map, insL_len hi]; exact hlc, hcm, fun i' x' j b u hi' hj hu => ?_⟩⟩
      rw [List.getElem?_map] at hi'
      obtain ⟨n, hn, rfl⟩ := Option.map_eq_some_iff.1 hi'
      have hjs := (List.getElem?_eq_some_iff.1 hj).1
      simp [encI] at hjs
      subst hjs
      simp [encI] at hj
      subst hj
      rw [Nat.mul_one, Nat.add_zero, hcur i' n hn] at hu
      obtain rfl := Option.some.inj hu
      exact .int _ _
    obtain ⟨r1, e1, n1, o1⟩ := hr.move_ hmr (.row g c 1) honly (fun g' hg' => by
      simp only [blkOf, addM_new, Option.some.injEq] at hg'
      subst hg'
      exact hg) hE
    have hsub : ∀ p ∈ [(N, Ent.arr 3 1 ((insL l i x).map encI))], p ∈ (N, Ent.arr 3 1 ((insL l i x).map encI)) :: sdrop [r] [(v, Ent.arr 3 1 [encI x]), (r, .arr 3 1 (l.map encI))] := fun p hp => by
      obtain rfl := List.mem_singleton.1 hp
      exact List.mem_cons_self
    have hvr := VR.own (M := addM M N (.row g c 1)) (F := F) (w := w') (t := N) (off := 0) (len := l.length + 1) (addM_new _) (by omega) hcm
    simp only [Nat.zero_mul, Nat.sub_zero] at hvr
    refine ⟨_, .own N 0 (l.length + 1), _, _, _, _, rfl, e1.sub hsub, hvr, r1.st.sub hsub, N, ⟨?_, ?_⟩, rfl, rfl⟩
    · show N ≠ r; omega
    · show N ≠ v; omega
  have hbig : (l.length + 1) * 8 ≤ 140737488355328 := by omega
  have hlm : (l.map (Value.int .i64)).length = l.length := List.length_map ..
  have hends : ∀ (B : Option Addr) (c : Nat), i = l.length → l.length ≤ c → c < l.length + 1 → (B = none → l.length = 0) → (∀ a, B = some a → ∀ (j : Nat) (u : Value), (l.map (Value.int .i64))[j]? = some u → w.cell? (a.add j) = some u) →
      Calls Try.prog 27 #[.slice B l.length c, .int .i64 i, .slice (some ⟨vb, 0, none⟩) 1 vc'] w fun e w' => ∃ v_1 x_1 M' F' N' σ', e = .returned v_1 ∧ Ext M F N w [(v, Ent.arr 3 1 [encI x]), (r, .arr 3 1 (l.map encI))] M' F' N' w' σ' ∧ VR M' F' w' x_1 v_1 ∧ SR M' F' N' w' σ' ∧
        ∃ q, (Nq q r ∧ Nq q v) ∧ x_1 = .own q 0 (l.length + 1) ∧ σ' = [(q, .arr 3 1 ((insL l i x).map encI))] := by
    intro B c hil hc1 hc2 hB hcells
    subst hil
    refine (Any2.slices_Insert_int_end_grow lays_ins B l.length c vb 0 1 vc' (l.map (Value.int .i64)) [.int .i64 x] w Nat.one_pos hc1 hc2 hbig hlm rfl hB hcells hvs h1v).mono ?_
    rintro e w' ⟨rfl, rfl⟩
    have hge := grownCap_ge w (l.length + 1) c (rhoI.t 3)
    refine fin w.heap.size _ _ _ ⟨rfl, rfl, rfl, by simp, fun q hq _ => heap_alloc_old w.drew _ hq⟩ (.inr (Nat.le_refl _)) (heap_alloc_new w.drew _) ?_ hge (grownCap_le_maxLen w _ c _ (by simp [maxLen]; omega)) (fun j n hj => ?_)
    · simp only [Array.size_append, List.size_toArray, List.length_append, hlm, List.length_singleton, size_zeroCells]
      simp only [Value.cells]
      simp
      omega
    · have hjl := (List.getElem?_eq_some_iff.1 hj).1
      rw [insL_end] at hj hjl
      rw [Array.getElem?_append_left (by simpa using hjl)]
      simp only [List.getElem?_toArray]
      rw [show l.map (Value.int .i64) ++ [Value.int .i64 x] = (l ++ [x]).map (Value.int .i64) by simp, List.getElem?_map, hj]
      rfl
  obtain ⟨_, _, her⟩ := hs.ent _ hmr
  generalize hnl : l.length = n at h0
  cases h0 with
  | @own0 _ _ A =>
    have hl0 : l = [] := List.eq_nil_of_length_eq_zero hnl
    subst hl0
    simp at hi
    subst hi
    exact hends A 0 rfl (Nat.le_refl _) (by simp) (fun _ => rfl) (fun a _ j u hj => by simp at hj)
  | @own _ _ _ g cc sz0 hM hle hm =>
    subst hnl
    rcases her with ⟨hv', _⟩ | ⟨g', c', cur, hM', hcl, hsz, hlc, hcm, hvr⟩
    · simp only at hv'
      rw [hM] at hv'; cases hv'
    simp only at hM'
    rw [hM] at hM'
    cases hM'
    simp only [Nat.mul_one] at hsz
    rw [List.length_map] at hlc
    have hints := intsV hvr (by omega)
    have hcs : ∀ (j : Nat) (u : Value), (l.map (Value.int .i64))[j]? = some u → w.cell? ⟨g, 0 + j, none⟩ = some u := fun j u hj => by
      rw [List.getElem?_map] at hj
      obtain ⟨n, hn, rfl⟩ := Option.map_eq_some_iff.1 hj
      rw [hcl.cell, Nat.zero_add]
      exact hints j n hn
    have hblk : blkOf M r = some g := by simp [blkOf, hM]
    have hsub : ∀ k, k = g → blkOf M r = some k := fun k hk => by rw [hk]; exact hblk
    have hmax : cc ≤ 9223372036854775807 := by simp [maxLen] at hcm; omega
    by_cases hroom : l.length + 1 ≤ cc
    · have hsome : ∀ j, j < l.length + 1 → (w.cell? ⟨g, 0 + j, none⟩).isSome = true := fun j hj => by
        rw [hcl.cell, Array.getElem?_eq_getElem (by omega)]; rfl
      have hfz : ∀ j, w.frozen? ⟨g, j, none⟩ = false := fun j => by unfold Cl at hcl; simp [World.frozen?, hcl]
      by_cases hil : i = l.length
      · subst hil
        refine (Any2.slices_Insert_int_end_room lays_ins g 0 l.length cc vb 0 1 vc' [.int .i64 x] w Nat.one_pos hroom hmax rfl (fun j hj => ?_) (fun j hj => hfz _) hvs h1v).mono ?_
        · rw [Nat.zero_add, hcl.cell, Array.getElem?_eq_getElem (by omega)]; rfl
        rintro e w' ⟨rfl, rfl⟩
        obtain ⟨cur', h1, h2, h3⟩ := cl_setCells [.int .i64 x] (0 + l.length) w cur hcl
        refine fin g cc cur' _ ((only_setCells _ _ _).mono fun k _ hk => hsub k hk) (.inl hblk) h1 (h2.trans hsz) hroom hcm (fun j n hj => ?_)
        have hjl := (List.getElem?_eq_some_iff.1 hj).1
        rw [insL_len hi] at hjl
        rw [h3 j (by omega)]
        rw [insL_at hi] at hj
        by_cases hjl2 : j < l.length
        · rw [if_pos hjl2] at hj
          rw [if_neg (by omega)]
          exact hints j n hj
        · have : j = l.length := by omega
          subst this
          simp at hj
          subst hj
          rw [if_pos (by simp)]
          simp
      · refine (Any2.slices_Insert_int_shift lays_ins g 0 l.length cc i vb 0 1 vc' (l.map (Value.int .i64)) [.int .i64 x] w (by omega) Nat.one_pos hroom hmax (fun e => ?_) hlm rfl hcs hsome (fun j _ => hfz _) hvs h1c h1v 3 3 vv.size cur.size ?_ ?_ (by omega) ?_ ?_).mono ?_
        · subst e
          exact hrv (hs.inj _ List.mem_cons_self _ hmr vb (by simp [blkOf, hMv]) hblk)
        · unfold Cl at hClv; simp [World.shape?, hClv]
        · unfold Cl at hcl; simp [World.shape?, hcl]
        · unfold Cl at hClv; simp [World.frozen?, hClv]
        · unfold Cl at hClv; simp [World.frozen?, hClv]
        rintro e w' ⟨rfl, rfl⟩
        obtain ⟨cur1, h1, h2, h3⟩ := cl_setCells ((l.map (Value.int .i64)).drop i) (0 + (i + 1)) w.drew cur hcl
        obtain ⟨cur', k1, k2, k3⟩ := cl_setCells [.int .i64 x] (0 + i) _ cur1 h1
        refine fin g cc cur' _ (((((Only.refl (fun k => k = g) w).drew).trans (only_setCells (g := g) _ _ _)).trans (only_setCells (g := g) _ _ _)).mono fun k _ hk => hsub k hk) (.inl hblk) k1 (by omega) hroom hcm (fun j n hj => ?_)
        have hjl := (List.getElem?_eq_some_iff.1 hj).1
        rw [insL_len hi] at hjl
        rw [k3 j (by omega), h3 j (by omega)]
        rw [insL_at hi] at hj
        by_cases hji : j < i
        · rw [if_pos hji] at hj
          rw [if_neg (by omega), if_neg (by omega)]
          exact hints j n hj
        · by_cases hji2 : j = i
          · subst hji2
            simp at hj
            subst hj
            rw [if_pos (by simp)]
            simp
          · rw [if_neg hji, if_neg hji2] at hj
            rw [if_neg (by simp; omega), if_pos (by simp; omega), List.getElem?_drop, List.getElem?_map, show i + (j - (0 + (i + 1))) = j - 1 by omega, hj]
            rfl
    · by_cases hil : i = l.length
      · exact hends _ _ hil (by omega) (by omega) (fun h => by cases h) (fun a ha j u hj => by
          cases ha
          have := hcs j u hj
          rw [Addr.add_lit]
          simpa using this)
      · refine (Any2.slices_Insert_int_grow lays_ins g 0 l.length cc i vb 0 1 vc' (l.map (Value.int .i64)) [.int .i64 x] w (by omega) Nat.one_pos (by omega) (by omega) hbig hlm rfl hcs hvs h1c h1v).mono ?_
        rintro e w' ⟨rfl, rfl⟩
        have hge := grownCap_ge w (l.length + 1) cc (rhoI.t 3)
        have hcl0 := heap_alloc_new w (.cells ((List.take i (l.map (Value.int .i64))).toArray ++ Builtin.zeroCells (Value.int .i64 0).cells (l.length + 1 - i) ++ Builtin.zeroCells (Value.int .i64 0).cells (grownCap w (l.length + 1) cc (rhoI.t 3) - (l.length + 1))) (rhoI.t 3))
        obtain ⟨W0, hW0⟩ : ∃ W0, W0 = w.alloc (.cells ((List.take i (l.map (Value.int .i64))).toArray ++ Builtin.zeroCells (Value.int .i64 0).cells (l.length + 1 - i) ++ Builtin.zeroCells (Value.int .i64 0).cells (grownCap w (l.length + 1) cc (rhoI.t 3) - (l.length + 1))) (rhoI.t 3)) := ⟨_, rfl⟩
        obtain ⟨cur0, hcur0⟩ : ∃ c : Array Value, c = (List.take i (l.map (Value.int .i64))).toArray ++ Builtin.zeroCells (Value.int .i64 0).cells (l.length + 1 - i) ++ Builtin.zeroCells (Value.int .i64 0).cells (grownCap w (l.length + 1) cc (rhoI.t 3) - (l.length + 1)) := ⟨_, rfl⟩
        have ho0 : Only (fun k => blkOf M r = some k) w W0 := by rw [hW0]; exact ⟨rfl, rfl, rfl, by simp, fun q hq _ => heap_alloc_old w _ hq⟩
        rw [← hW0, ← hcur0] at hcl0
        rw [← hW0]
        have hs0 : cur0.size = grownCap w (l.length + 1) cc (rhoI.t 3) := by
          rw [hcur0]
          simp only [Array.size_append, List.size_toArray, List.length_take, hlm, size_zeroCells]
          simp only [Value.cells]
          simp
          omega
        have ht0 : ∀ j, j < i → cur0[j]? = (l.map (Value.int .i64))[j]? := fun j hj => by
          rw [hcur0, Array.getElem?_append_left (by simp; omega), Array.getElem?_append_left (by simp; omega)]
          simp only [List.getElem?_toArray]
          rw [List.getElem?_take_of_lt hj]
        obtain ⟨cur1, h1, h2, h3⟩ := cl_setCells [.int .i64 x] i W0.drew cur0 (hcl0 : Cl W0.drew w.heap.size (rhoI.t 3) cur0)
        obtain ⟨cur', k1, k2, k3⟩ := cl_setCells ((l.map (Value.int .i64)).drop i) (i + 1) (W0.drew.setCells w.heap.size i [.int .i64 x]).drew cur1 h1
        refine fin w.heap.size _ cur' _ (ho0.trans' (((((Only.refl (fun k => k = w.heap.size) W0).drew).trans (only_setCells (g := w.heap.size) _ _ _)).drew).trans (only_setCells (g := w.heap.size) _ _ _)) fun k hk h => absurd hk (by omega)) (.inr (Nat.le_refl _)) k1 (by omega) hge (grownCap_le_maxLen w _ cc _ (by simp [maxLen]; omega)) (fun j n hj => ?_)
        have hjl := (List.getElem?_eq_some_iff.1 hj).1
        rw [insL_len hi] at hjl
        rw [k3 j (by omega), h3 j (by omega)]
        rw [insL_at hi] at hj
        by_cases hji : j < i
        · rw [if_pos hji] at hj
          rw [if_neg (by omega), if_neg (by omega), ht0 j hji, List.getElem?_map, hj]
          rfl
        · by_cases hji2 : j = i
          · subst hji2
            simp at hj
            subst hj
            rw [if_neg (by omega), if_pos (by simp)]
            simp
          · rw [if_neg hji, if_neg hji2] at hj
            rw [if_pos (by simp; omega), List.getElem?_drop, List.getElem?_map, show i + (j - (i + 1)) = j - 1 by omega, hj]
            rfl
end Go.Proofs.Ytemehfolglcleaa
