/-
  The symbolic layer: append of noughts (of one cell each) onto a row of the call's own. No program is named here.
-/
import Derived.Test.YtkjfflabapeidaaSymL
import Derived.Lib.AppendZerosOnto
namespace Go.Proofs.Ytkjfflabapeidaa
open Go.RowKit Go.ChangeShapes Go.WideShapes Go.ChangeAt Go.Deep
set_option linter.unusedSimpArgs false
set_option linter.unusedVariables false

theorem zeroCells_one (z0 : Value) (k : Nat) : Builtin.zeroCells #[z0] k = (List.replicate k z0).toArray := by
  apply Array.ext
  · simp [Builtin.zeroCells]
  · intro i h1 h2
    have h3 : i % 1 = 0 := Nat.mod_one i
    simp [Builtin.zeroCells, h3]
theorem run_append_own_zeros {P : Program} (w : World) (base : Nat) (t tn ty e : TypeId) (i : TypeInfo) (z z0 : Value) (kq kn : IntKind) (ht : P.underlying t = some (.slice e)) (htn : P.underlying tn = some (.int kn)) (hi : P.info? e = some i) (hz : i.zero = some z) (hs : i.size = 1) (hzc : z.cells = #[z0]) (h1 : z0.oneCell' = true)
    (B : Option Addr) (n c : Nat) (xs : List Value) (hown : (n = 0 ∧ c = 0 ∧ xs = []) ∨ w.ownsRow base e 1 (.slice B n c) n xs) (k : Nat) (h0 : 0 < k) (h63 : n + k ≤ maxLen) (hbytes : (n + k) * i.bytes ≤ 140737488355328) (hbase : base ≤ w.heap.size) :
    ∃ v' w', (Builtin.append_ #[t, tn] ty #[.slice B n c, .int kq k]).run P w = .ok v' w' ∧ w'.ownsRow base e 1 v' (n + k) (xs ++ List.replicate k z0) ∧
      ((∃ g, B = some ⟨g, 0, none⟩ ∧ v' = .slice B (n + k) c ∧ ∃ cs, w' = w.setRow g cs) ∨ (∃ cs, v'.ownBlock = some w.heap.size ∧ w' = w.drew.alloc (.cells cs e))) := by
  have hkb : k * i.bytes ≤ 281474976710656 := by have := Nat.mul_le_mul_right i.bytes (show k ≤ n + k by omega); omega
  have hk : k ≠ 0 := by omega
  have hw : IntKind.i64.wrap (k : Int) = k := by rw [IntKind.wrap_i64]; simp only [maxLen] at h63; omega
  have h48i : ¬ (281474976710656 < (k : Int) * (i.bytes : Int)) := by rw [← Int.natCast_mul]; omega
  have hneg : ¬ ((k : Int) < 0) := by omega
  have hns : ¬ (k * i.size = 0) := Nat.mul_ne_zero hk (by omega)
  have hxl : xs.length = n := by rcases hown with ⟨rfl, _, rfl⟩ | h <;> first | rfl | (have := h.1; omega)
  have grow : ∀ old : (Builtin.firstCells i.size n (.slice B n c)).run P w.drew = .ok xs.toArray w.drew, c < n + k → ∃ v' w', (Builtin.append_ #[t, tn] ty #[.slice B n c, .int kq k]).run P w = .ok v' w' ∧ w'.ownsRow base e 1 v' (n + k) (xs ++ List.replicate k z0) ∧
      ((∃ g, B = some ⟨g, 0, none⟩ ∧ v' = .slice B (n + k) c ∧ ∃ cs, w' = w.setRow g cs) ∨ (∃ cs, v'.ownBlock = some w.heap.size ∧ w' = w.drew.alloc (.cells cs e))) := by
    intro hold hroom
    have hr := Lib.run_append_grow_zeros w t tn ty e i z kq kn ht htn hi hz B n c xs hold k h0 (by omega) hroom (by simp only [maxLen] at h63; omega) hkb (growslice_fits (by omega) hbytes)
    refine ⟨_, _, hr, ⟨by simp [hxl], .inr ⟨w.heap.size, _, _, rfl, hbase, heap_alloc_new w.drew _, grownCap_ge w (n + k) c e, grownCap_le_maxLen w (n + k) c e h63, ?_, ?_⟩⟩, .inr ⟨_, rfl, rfl⟩⟩
    · have := grownCap_ge w (n + k) c e
      simp only [hzc, zeroCells_one, Array.size_append, List.size_toArray, List.length_replicate, hxl]
      omega
    · simp only [hzc, zeroCells_one, Array.toList_append]
      rw [show (n + k) * 1 = (xs ++ List.replicate k z0).length by simp [hxl]]
      exact List.take_left
  rcases hown with ⟨rfl, rfl, rfl⟩ | hown
  · refine grow ?_ (by omega)
    cases B <;> simp [Builtin.firstCells, loadCells, loadCellsFrom]
  · rcases hown.2 with ⟨hv, rfl⟩ | ⟨g, cap, cur, hv, hbg, hg, hnc, hcm, hcs, htake⟩
    · cases hv
      have : xs = [] := List.eq_nil_of_length_eq_zero hxl
      subst this
      exact grow (by simp [Builtin.firstCells, loadCells, loadCellsFrom]) (by omega)
    · cases hv
      by_cases hroom : n + k ≤ c
      · have hfit : n * i.size + (List.replicate k z0).length ≤ cur.size := by rw [hs, hcs]; simp; omega
        have hst := run_storeCells_at P g (n * i.size) e (List.replicate k z0) 0 cur w hg (by simpa using hfit) (fun u hu => by rw [List.eq_of_mem_replicate hu]; exact h1)
        have hr : (Builtin.append_ #[t, tn] ty #[.slice (some ⟨g, 0, none⟩) n c, .int kq k]).run P w = .ok (.slice (some ⟨g, 0, none⟩) (n + k) c) (w.setRow g (cur.toList.take n ++ List.replicate k z0 ++ cur.toList.drop (n + k)).toArray) := by
          simp only [Nat.add_zero, hs, Nat.mul_one, List.length_replicate] at hst
          simp [Builtin.append_, run_underlying ht, run_underlying htn, sizeOf, typeInfo, zeroValue, hi, hz, asInt, asIntOf, hw, hneg, hk, h48i, hroom, Addr.add_lit, hst, hzc, zeroCells_one, hs]
        refine ⟨_, _, hr, ⟨by simp [hxl], .inr ⟨g, c, _, rfl, hbg, setRow_heap w g cur _ e _ hg, hroom, hcm, ?_, ?_⟩⟩, .inl ⟨g, rfl, rfl, _, rfl⟩⟩
        · simp; omega
        · rw [Nat.mul_one] at htake
          simp only [htake]
          rw [show (n + k) * 1 = (xs ++ List.replicate k z0).length by simp [hxl]]
          exact List.take_left
      · refine grow (run_firstCells_some (P := P) w.drew i.size n ⟨g, 0, none⟩ n c xs (by rw [hs, hxl]; omega) (fun j u hj => ?_)) (by omega)
        exact (hown.cells (g := g) rfl) j u hj

section
variable {P : Program} {n : Nat} {s : ASt} {K : ASt → Prop} {ty t tn : TypeId} {d : Nat} {x y : Operand} {pos : String} {af : Array Edge}
/-- append of k noughts onto a row of the call's own, all of it -/
theorem hop_append_zeros {e : TypeId} [Ty P t (.slice e)] {kn : IntKind} [Ty P tn (.int kn)] {by_ : Nat} {zv z0 : Value} [Tz P e 1 by_ zv] (hzc : zv.cells = #[z0]) (h1 : z0.oneCell' = true) (hcl : (ofConst z0).cell = true) {r len k : Nat} {kq : IntKind} {m : Int} {es : List (List AV)} (hb : aev s x = some (.own r 0 len)) (hg : sget s.σ r = some (.arr e 1 es)) (hlen : len = es.length) (hy : aev s y = some (.int kq m)) (hm : m = (k : Int)) (h0 : 0 < k)
    (hmax : len + k ≤ maxLen) (hby : (len + k) * by_ ≤ 140737488355328) (hd : d < n)
    (hK : ∀ r', Fresh r' (sdrop [r] s.σ) → K ⟨(d, .own r' 0 (len + k)) :: s.fr, (r', .arr e 1 (es ++ List.replicate k [ofConst z0])) :: sdrop [r] s.σ⟩) : Hop P n (.call { callee := .builtin .append, args := #[x, y], argTypes := #[t, tn] }) ty (some d) s [r] K := by
  subst hm
  intro M F N a w o ho hty hdst hr next Q hnext
  have hbase := hr.aev hb
  have hmem := sget_mem hg
  obtain ⟨h0', hrowsE, h3⟩ := hr.st.ent _ hmem
  obtain ⟨i, hi, hz0, hs0, hb0⟩ := Tz.parts P e
  have ey := (Ev.here hy : Ev s true y _).int hr rfl
  -- what the row holds
  have hown : ∃ B c xs, a.eval x = .slice B len c ∧ ((len = 0 ∧ c = 0 ∧ xs = []) ∨ w.ownsRow 0 e 1 (.slice B len c) len xs) ∧ RowsAt M F w 1 es xs ∧ (∀ g, B = some ⟨g, 0, none⟩ → 0 < c → blkOf M r = some g) := by
    generalize a.eval x = u at hbase ⊢
    cases hbase with
    | own0 =>
      rename_i A
      have he : es = [] := List.eq_nil_of_length_eq_zero hlen.symm
      subst he
      exact ⟨A, 0, [], rfl, .inl ⟨rfl, rfl, rfl⟩, ⟨rfl, fun i x j a u hi => by simp at hi⟩, fun g _ h => absurd h (Nat.lt_irrefl _)⟩
    | own hM hle hmm =>
      rcases h3 with ⟨hv', _⟩ | ⟨g, cc, vs, hM', hcl', hsz, hle', hmax', hvr⟩
      · rw [hM] at hv'; cases hv'
      · have hg' := hM'.symm.trans hM
        simp only [Option.some.injEq, Blk'.row.injEq] at hg'
        obtain ⟨q1, q2, q3⟩ := hg'
        subst q1
        subst q2
        have hfit : len * 1 ≤ vs.size := by rw [hsz]; exact Nat.mul_le_mul_right _ (by omega)
        refine ⟨some ⟨g, 0, none⟩, cc, vs.toList.take (len * 1), by simp, .inr ⟨by rw [List.length_take]; simp; omega, .inr ⟨g, cc, vs, by simp, Nat.zero_le _, hcl', by omega, hmm, hsz, rfl⟩⟩, ⟨by rw [List.length_take]; simp; omega, fun i' x' j b u hi' hj hu => ?_⟩, fun g2 hg2 _ => ?_⟩
        · have hil := (List.getElem?_eq_some_iff.1 hi').1
          have hjs : j < 1 := by rw [← (hrowsE x' (List.mem_of_getElem? hi')).1]; exact (List.getElem?_eq_some_iff.1 hj).1
          rw [List.getElem?_take_of_lt (flat_idx (by omega) hjs)] at hu
          exact hvr i' x' j b u hi' hj (by simpa using hu)
        · simp only [Option.some.injEq, Addr.mk.injEq] at hg2
          obtain ⟨rfl, _⟩ := hg2
          simp [blkOf, hM]
  obtain ⟨B, c, xs, hx, hown, hrT, hblk⟩ := hown
  subst hlen
  obtain ⟨v', w', hrun, ho', hcase⟩ := run_append_own_zeros (P := P) w 0 t tn o.type e i zv z0 kq kn (Ty.und (P := P) (t := t)) (Ty.und (P := P) (t := tn)) hi hz0 hs0 hzc h1 B es.length c xs hown k h0 hmax (by rw [hb0]; exact hby) (Nat.zero_le _)
  have hex : (execOp a.eval o).run P w = .ok (.value v') w' := by
    simp only [execOp, ho, resolve, invoke, builtin, Sem.run_bind, Sem.run_pure, Result.andThen_ok, List.map_toArray, List.map_cons, List.map_nil, hx, ey, hrun]
  unfold Oper.wp
  rw [hex, Oper.upon_value, hdst]
  have hokC : RowsOk 1 (es ++ List.replicate k [ofConst z0]) := fun x hx => (List.mem_append.1 hx).elim (hrowsE x) (fun h => by
    obtain rfl := List.eq_of_mem_replicate h
    exact ⟨rfl, fun a ha => by obtain rfl := List.mem_singleton.1 ha; exact hcl⟩)
  have hnew : RowsAt M F w 1 (List.replicate k [ofConst z0]) (List.replicate k z0) := ⟨by simp, fun i' x' j b u hi' hj hu => by
    rw [List.getElem?_replicate] at hi'
    split at hi'
    · obtain rfl := Option.some.inj hi'
      have hjs := (List.getElem?_eq_some_iff.1 hj).1
      simp at hjs
      subst hjs
      simp at hj
      subst hj
      rw [List.getElem?_replicate] at hu
      split at hu
      · obtain rfl := Option.some.inj hu
        exact ofConst_vr _
      · cases hu
    · cases hi'⟩
  have hcat : RowsAt M F w 1 (es ++ List.replicate k [ofConst z0]) (xs ++ List.replicate k z0) := hrT.append hrowsE hnew
  have hpos : 0 < es.length + k := by omega
  have honly : Only (fun q => blkOf M r = some q) w w' := by
    rcases hcase with ⟨g, hB, hv, cs, rfl⟩ | ⟨cs, _, rfl⟩
    · refine ⟨rfl, rfl, rfl, by simp, fun q hq hne => setRow_other w g q cs (fun e => hne ?_)⟩
      subst e
      subst hv
      have hcpos : 0 < c := by
        rcases ho'.2 with ⟨hv, _⟩ | ⟨g2, cap, cur, hv, _, _, hn2, _⟩
        · rw [hB] at hv; cases hv
        · rw [hB] at hv
          cases hv
          omega
      exact hblk _ hB hcpos
    · exact ⟨rfl, rfl, rfl, by simp, fun q hq _ => heap_alloc_old w.drew _ hq⟩
  have hSame : Same F w w' := fun g hgF => honly.block g (hr.st.flt g hgF) (fun e => hr.st.nof g ⟨_, hmem, e⟩ hgF)
  rcases ho'.2 with ⟨rfl, hz'⟩ | ⟨g2, cap, cur, rfl, _, hg2, hn2, hm2, hs2, ht2⟩
  · omega
  · have hE : ER (addM M N (.row g2 cap 1)) F w' N (.arr e 1 (es ++ List.replicate k [ofConst z0])) := by
      refine ⟨h0', hokC, .inr ⟨g2, cap, cur, addM_new _, hg2, hs2, by simpa using hn2, hm2, fun i' x' j b u hi' hj hu => ?_⟩⟩
      refine VR.mono (fun r b' h => addM_old hr.st.fresh _ h) (fun _ h => h) hSame (hcat.2 i' x' j b u hi' hj ?_)
      have hil := (List.getElem?_eq_some_iff.1 hi').1
      rw [List.length_append, List.length_replicate] at hil
      have hjs : j < 1 := by rw [← (hokC x' (List.mem_of_getElem? hi')).1]; exact (List.getElem?_eq_some_iff.1 hj).1
      rw [← ht2, List.getElem?_take_of_lt (flat_idx hil hjs)]
      simpa using hu
    obtain ⟨r1, e1, n1, o1⟩ := hr.move_ hmem (.row g2 cap 1) honly (fun g hg => by
      simp only [blkOf, addM_new, Option.some.injEq] at hg
      subst hg
      rcases hcase with ⟨g, hB, hv, _⟩ | ⟨cs, hv, _⟩
      · rw [hB] at hv
        cases hv
        exact .inl (hblk _ hB (by omega))
      · simp only [Value.ownBlock, Option.some.injEq] at hv
        exact .inr (by omega)) hE
    have hv := VR.own (M := addM M N (.row g2 cap 1)) (F := F) (w := w') (t := N) (off := 0) (len := es.length + k) (addM_new _) (by omega) hm2
    simp only [Nat.zero_mul, Nat.sub_zero] at hv
    exact hnext _ F (N + 1) _ _ ⟨(d, .own N 0 (es.length + k)) :: s.fr, _⟩ (r1.put hd hv) e1 o1 (hK N n1)
end
section
variable {P : Program} {n : Nat} {ops : Array Oper} {rest : List Oper} {fr : Fr} {σ : Sto} {K : ASt → Prop} {ty t tn : TypeId} {pos : String} {af : Array Edge} {x y : Operand} {d : Nat}
theorem apz {e : TypeId} [Ty P t (.slice e)] {kn : IntKind} [Ty P tn (.int kn)] {by_ : Nat} {zv z0 : Value} [Tz P e 1 by_ zv] {r len len' k : Nat} {kq : IntKind} {m : Int} {es es' : List (List AV)} (hzc : zv.cells = #[z0]) (h1 : z0.oneCell' = true) (hcl : (ofConst z0).cell = true) (hb : aev ⟨fr, σ⟩ x = some (.own r 0 len)) (hg : sget σ r = some (.arr e 1 es)) (hlen : len = es.length) (hy : aev ⟨fr, σ⟩ y = some (.int kq m)) (hm : m = (k : Int)) (h0 : 0 < k)
    (he : es ++ List.replicate k [ofConst z0] = es') (hl' : len' = len + k) (hmax : len' ≤ maxLen) (hby : len' * by_ ≤ 140737488355328) (hd : Nat.ble (d + 1) n = true)
    (hK : ∀ r', Fresh r' (sdrop [r] σ) → ∃ σ', SSet σ r (.arr e 1 es) r' (.arr e 1 es') σ' ∧ RS P n ops rest ⟨(d, .own r' 0 len') :: fr, σ'⟩ K) : RS P n ops (⟨some d, .call { callee := .builtin .append, args := #[x, y], argTypes := #[t, tn] }, ty, pos, af, none⟩ :: rest) ⟨fr, σ⟩ K := by
  subst he hl'
  refine rs_heavy (hop_append_zeros hzc h1 hcl hb hg hlen hy hm h0 hmax hby (lt_ble hd) fun r' hf => ?_)
  obtain ⟨σ', hs, hK⟩ := hK r' hf
  exact rs_sub (fun p hp => hs.sub p hp) hK
end
theorem rs_virt_box {P : Program} {n : Nat} {ops : Array Oper} {rest : List Oper} {s : ASt} {K : ASt → Prop} (r off : Nat) (e : TypeId) (sz : Nat) (h0 : 0 < sz) {bt : TypeId} {cs : List AV} {z : Nat} {k : Rk} (hg : sget s.σ r = some (.box bt cs)) (hx : cs[off]? = some (.ro z [] k)) (hk : k ≠ .any)
    (h : ∀ q, Fresh q s.σ → ∃ σ', SSet s.σ r (.box bt cs) r (.box bt (cs.set off (.own q 0 0))) σ' ∧ RS P n ops rest ⟨s.fr, (q, .arr e sz []) :: σ'⟩ K) : RS P n ops rest s K := by
  intro M F N a w hr
  have hE : ER (addM M N .virt) F w N (.arr e sz []) := ⟨h0, fun x hx => by simp at hx, .inl ⟨addM_new _, rfl⟩⟩
  obtain ⟨r1, e1, n1⟩ := hr.new_ (w' := w) .virt (.arr e sz []) (fun _ _ => rfl) ⟨rfl, rfl, rfl⟩ (Nat.le_refl _) (fun g hg => by simp [blkOf, addM_new] at hg) hE
  obtain ⟨σ', hs, hK⟩ := h N n1
  have hmem : ∀ p ∈ (N, Ent.arr e sz []) :: σ', ∃ x, (p.1, x) ∈ (N, Ent.arr e sz []) :: s.σ := by
    intro p hp
    rcases List.mem_cons.1 hp with rfl | hp
    · exact ⟨_, List.mem_cons_self⟩
    · rcases List.mem_cons.1 (hs.sub p hp) with rfl | hp
      · exact ⟨_, List.mem_cons_of_mem _ (sget_mem hg)⟩
      · exact ⟨_, List.mem_cons_of_mem _ (mem_sdrop hp).1⟩
  have hr2 : Rel (addM M N .virt) F (N + 1) n ⟨s.fr, (N, .arr e sz []) :: σ'⟩ a w := by
    refine ⟨r1.size, r1.defers, r1.fr, r1.st.retold fun p hp => ⟨hmem p hp, ?_⟩⟩
    rcases List.mem_cons.1 hp with rfl | hp
    · exact hE
    · rcases List.mem_cons.1 (hs.sub p hp) with rfl | hp
      · obtain ⟨g, vs, h1, h2, h3, h4⟩ := r1.st.ent _ (List.mem_cons_of_mem _ (sget_mem hg))
        refine ⟨g, vs, by simpa using h1, h2, by simpa using h3, fun j b u hj hu => ?_⟩
        by_cases hjo : off = j
        · subst hjo
          have hlt : off < cs.length := (List.getElem?_eq_some_iff.1 hx).1
          rw [List.getElem?_set_self hlt] at hj
          obtain rfl := Option.some.inj hj
          have hv := h4 off _ u hx hu
          cases hv with
          | @ro _ _ b o _ cap us hb hs hc hrr hle hm hf hn =>
            cases k with
            | nil => exact absurd rfl hn
            | full => have := hf rfl; simp at this; subst this; exact .own0
            | any => exact absurd rfl hk
          | ro0 hm hA hf hn =>
            cases k with
            | nil => obtain rfl := hn rfl; obtain rfl := hA rfl; exact .own0
            | full => obtain rfl := hf rfl; exact .own0
            | any => exact absurd rfl hk
        · rw [List.getElem?_set_ne hjo] at hj
          exact h4 j b u hj hu
      · exact r1.st.ent p (List.mem_cons_of_mem _ (mem_sdrop hp).1)
  exact wpList_mono (PostN.ext (e1.trans (Ext.retold hmem))) (hK _ F _ a w hr2)
theorem fresh_rest {e : Nat} {σ1 σ : Sto} (h : (∃ q ∈ σ1, q.1 = e) ∨ Fresh e σ) : Fresh e (sdrop (σ1.map (·.1)) σ) := by
  intro p hp
  obtain ⟨h1, h2⟩ := mem_sdrop hp
  rcases h with ⟨q, hq, rfl⟩ | h
  · exact fun e => h2 (e ▸ List.mem_map.2 ⟨q, hq, rfl⟩)
  · exact h p h1
/-- a row that a variable's cell tells of gets a new name -/
theorem sw_ren {P : Program} {n : Nat} {ks : List Nat} {s : ASt} {c : Code} {Q : Exit → ASt → Prop} (r off d : Nat) {bt e : TypeId} {cs : List AV} {sz o len : Nat} {es : List (List AV)} (hg : sget s.σ r = some (.box bt cs)) (hx : cs[off]? = some (.own d o len)) (hd : sget s.σ d = some (.arr e sz es))
    (h : ∀ q, Fresh q s.σ → ∃ σ1, SSet s.σ r (.box bt cs) r (.box bt (cs.set off (.own q o len))) σ1 ∧ ∃ σ2, SSet σ1 d (.arr e sz es) q (.arr e sz es) σ2 ∧ SW P n ks c ⟨s.fr, σ2⟩ Q) : SW P n ks c s Q := by
  intro M F N a w hr
  have hmd := sget_mem hd
  have hmr := sget_mem hg
  obtain ⟨b, hb⟩ : ∃ b, M d = some b := by
    cases hM : M d with
    | none => exact absurd hM (hr.st.ent _ hmd).some
    | some b => exact ⟨b, rfl⟩
  have hblk : ∀ g, blkOf (addM M N b) N = some g → blkOf M d = some g := fun g hg => by
    simp only [blkOf, addM_new] at hg
    simp only [blkOf, hb]
    exact hg
  have hE0 := hr.st.ent _ hmd
  have hmm : ∀ q b', M q = some b' → addM M N b q = some b' := fun q b' hq => addM_old hr.st.fresh b hq
  have hE : ER (addM M N b) F w N (.arr e sz es) := by
    obtain ⟨k0, k1, k2⟩ := hE0
    refine ⟨k0, k1, ?_⟩
    rcases k2 with ⟨k2, k3⟩ | ⟨g, cc, vs, k2, k3, k4, k5, k6, k7⟩
    · simp only at k2
      exact .inl ⟨by rw [addM_new, ← k2, hb], k3⟩
    · simp only at k2
      exact .inr ⟨g, cc, vs, by rw [addM_new, ← k2, hb], k3, k4, k5, k6, fun i x j a u hi hj hu => (k7 i x j a u hi hj hu).mono hmm (fun _ h => h) (fun _ _ => rfl)⟩
  obtain ⟨r1, e1, n1, -⟩ := hr.move_ hmd b (Only.refl _ w) (fun g hg => .inl (hblk g hg)) hE
  have hnN : Fresh N s.σ := fun p hp => by have := hr.st.name hp; omega
  obtain ⟨σ1, hs1, σ2, hs2, hK⟩ := h N hnN
  have hmem : ∀ p ∈ σ2, p = (N, Ent.arr e sz es) ∨ p = (r, .box bt (cs.set off (.own N o len))) ∨ (p ∈ s.σ ∧ p.1 ≠ d) := by
    intro p hp
    rcases List.mem_cons.1 (hs2.sub p hp) with rfl | hp
    · exact .inl rfl
    · obtain ⟨hp1, hp2⟩ := mem_sdrop hp
      rcases List.mem_cons.1 (hs1.sub p hp1) with rfl | hp3
      · exact .inr (.inl rfl)
      · exact .inr (.inr ⟨(mem_sdrop hp3).1, by simpa using hp2⟩)
  have hrd : r ≠ d := by
    rintro rfl
    rw [hg] at hd
    cases hd
  have hin : ∀ p ∈ σ2, ∃ x, (p.1, x) ∈ (N, Ent.arr e sz es) :: sdrop [d] s.σ := by
    intro p hp
    rcases hmem p hp with rfl | rfl | ⟨hp1, hp2⟩
    · exact ⟨_, List.mem_cons_self⟩
    · refine ⟨.box bt cs, List.mem_cons_of_mem _ ?_⟩
      simp only [sdrop, List.mem_filter]; exact ⟨hmr, by simpa using hrd⟩
    · refine ⟨p.2, List.mem_cons_of_mem _ ?_⟩
      simp only [sdrop, List.mem_filter]; exact ⟨hp1, by simpa using hp2⟩
  have hr2 : Rel (addM M N b) F (N + 1) n ⟨s.fr, σ2⟩ a w := by
    refine ⟨r1.size, r1.defers, r1.fr, r1.st.retold fun p hp => ⟨hin p hp, ?_⟩⟩
    rcases hmem p hp with rfl | rfl | ⟨hp1, hp2⟩
    · exact hE
    · obtain ⟨g, vs, h1, h2, h3, h4⟩ := hr.st.ent _ hmr
      refine ⟨g, vs, by simpa using hmm _ _ h1, h2, by simpa using h3, fun j x u hj hu => ?_⟩
      by_cases hjo : off = j
      · subst hjo
        have hlt : off < cs.length := (List.getElem?_eq_some_iff.1 hx).1
        rw [List.getElem?_set_self hlt] at hj
        obtain rfl := Option.some.inj hj
        have hv := h4 off _ u hx hu
        cases hv with
        | own hM hle hm => exact .own (by rw [addM_new, ← hM, hb]) hle hm
        | own0 => exact .own0
      · rw [List.getElem?_set_ne hjo] at hj
        exact (h4 j x u hj hu).mono hmm (fun _ h => h) (fun _ _ => rfl)
    · exact ER.mono hmm (fun _ h => h) (fun _ _ => rfl) (fun _ _ => rfl) (hr.st.ent p hp1)
  refine wp_mono (hK _ F _ a w hr2) ?_
  rintro e' a' w' ⟨M', F', N', s2, h1, h2, h3⟩
  exact ⟨M', F', N', s2, h1, (e1.trans (Ext.retold hin)).trans h2, h3⟩
/-- a call that makes nothing, whose guard is itself guarded -/
theorem puw {P : Program} {n : Nat} {ops : Array Oper} {rest : List Oper} {fr : Fr} {σ : Sto} {K : ASt → Prop} {ty : TypeId} {pos : String} {af : Array Edge} {f : FuncId} {d j dj : Nat} {want b c0 : Bool} {xs : List Operand} {ats : Array TypeId} {args : List AV} {v : AV} (ts : List Nat) (hj : (ops[j]?).bind (·.dst) = some dj) (hb : fget fr dj = some (.when c0 (.bool b))) (hf : ∀ args w, (callFunc f args).run P w = .ok (.enter f args) w)
    (h : (c0 && (b == want)) = true → SCall P f args [] (fun x σ' => x = v ∧ σ' = [])) (hd : Nat.ble (d + 1) n = true) (hargs : ArgsIf ⟨fr, σ⟩ (c0 && (b == want)) ts xs args) (hno : NoF v) (hK : RS P n ops rest ⟨(d, .when (c0 && (b == want)) v) :: fr, σ⟩ K) :
    RS P n ops (⟨some d, .call { callee := .value (.func f), args := xs.toArray, argTypes := ats }, ty, pos, af, some (j, want)⟩ :: rest) ⟨fr, σ⟩ K := by
  intro M F N a w hr
  refine wpList_step fun K' hK' => ?_
  cases hc : c0 with
  | false =>
    have hy : yielded ops a.tmps j = none := by
      have h0 := hr.fr dj _ hb
      cases h0 with
      | when _ h0 =>
        have h0 := h0 hc
        unfold yielded
        rw [hj]
        simp only [Option.bind_some]
        rcases hx : a.tmps[dj]? with _ | u
        · rfl
        · rw [Array.getD_eq_getD_getElem?, hx] at h0
          simp only [Option.getD_some] at h0
          subst h0
          rfl
    rw [if_neg (by simp [Region.wanted, hy])]
    exact hK' _ _ (hK M F N _ w (hr.put (lt_ble hd) (.when (fun h => by simp [hc] at h) (fun _ => rfl))))
  | true =>
    have hw := wanted_when (o := ⟨some d, .call { callee := .value (.func f), args := xs.toArray, argTypes := ats }, ty, pos, af, some (j, want)⟩) hr rfl hj hb hc
    rw [hw]
    by_cases hbw : (b == want) = true
    · rw [if_pos hbw]
      refine lent_step ts hf h (by simp [hc, hbw]) hargs hno hr rfl fun M' N' w' u hr' he _ hv => ?_
      exact hK' _ _ (wpList_mono (PostN.ext he) (hK M' F N' _ w' (hr'.put (lt_ble hd) (.when (fun _ => hv) (fun h => by rw [hc, hbw] at h; cases h)))))
    · simp only [Bool.not_eq_true] at hbw
      rw [if_neg (by rw [hbw]; simp)]
      exact hK' _ _ (hK M F N _ w (hr.put (lt_ble hd) (.when (fun h => by simp [hbw] at h) (fun _ => rfl))))
/-! ### loud steps of a drawn region whose guards are literals -/
theorem rd_heavy_yes {P : Program} {n : Nat} {ops : Array Oper} {listed : Array Bool} {todo : List (Nat × Bool)} {held : List (Nat × List Nat)} {s : ASt} {K : ASt → Prop} {op : Op} {ty : TypeId} {pos : String} {af : Array Edge} {i gj dj : Nat} {want : Bool} {dst : Option Nat} {fp : List Nat} (hi : ops[i]? = some ⟨dst, op, ty, pos, af, some (gj, want)⟩) (hj : (ops[gj]?).bind (·.dst) = some dj) (hb : fget s.fr dj = some (.bool want)) (h : Hop P n op ty dst s fp fun s' => RD P n ops (listed.setIfInBounds i true) todo held s' K)
    (hfp : fp = [] ∨ ((∀ r ∈ fp, r ∈ s.σ.map (·.1)) ∧ ∀ r ∈ heldBy ops held i, r ∈ s.σ.map (·.1) ∧ r ∉ fp)) : RD P n ops listed ((i, false) :: todo) held s K := by
  intro hsel hc M F N a w hr
  obtain ⟨hc1, hc3⟩ := chkB_cons hi hc
  simp only [Bool.false_eq_true, if_false, beq_iff_eq] at hc1
  refine ⟨fun h0 => by rw [hc1] at h0; simp at h0, fun j hj' => ?_⟩
  rw [hc1] at hj'
  obtain rfl : j = i := by simpa using hj'
  unfold wpOp
  simp only [hi]
  rw [wanted_of (o := ⟨dst, op, ty, pos, af, some (gj, want)⟩) hr rfl hj hb, if_pos (by cases want <;> rfl)]
  refine .inl (h M F N a w _ rfl rfl rfl hr _ _ fun M' F' N' a' w' s' hr' he ho hk => ⟨fun g hg hlt => ?_, ?_⟩)
  · rcases hg with hg | ⟨r, hrh, hg⟩
    · exact he.only.block g hlt (fun hB => hr.st.nof g hB hg)
    · rcases hfp with rfl | ⟨hf1, hf2⟩
      · exact ho.block g hlt (by simp)
      · obtain ⟨h1, h2⟩ := hf2 r hrh
        obtain ⟨p, hp, rfl⟩ := List.mem_map.1 h1
        refine ho.block g hlt ?_
        rintro ⟨q, hq, hqg⟩
        obtain ⟨p2, hp2, rfl⟩ := List.mem_map.1 (hf1 q hq)
        exact h2 (by rw [hr.st.inj p hp p2 hp2 g hg hqg]; exact hq)
  · refine wpAnyC_mono (PostN.ext he) ?_ _ _ _ _ (hk hsel hc3 M' F' N' a' w' hr')
    rintro j g (hg | ⟨r, hr, hg⟩)
    · exact .inl (he.ff g hg)
    · refine .inr ⟨r, hr, ?_⟩
      unfold blkOf at hg ⊢
      cases hm : M r with
      | none => rw [hm] at hg; cases hg
      | some b => rw [hm] at hg; rw [he.mm _ _ hm]; exact hg
theorem rd_heavy_no {P : Program} {n : Nat} {ops : Array Oper} {listed : Array Bool} {todo : List (Nat × Bool)} {held : List (Nat × List Nat)} {s : ASt} {K : ASt → Prop} {op : Op} {ty : TypeId} {pos : String} {af : Array Edge} {i d gj dj : Nat} {want b : Bool} (hi : ops[i]? = some ⟨some d, op, ty, pos, af, some (gj, want)⟩) (hj : (ops[gj]?).bind (·.dst) = some dj) (hb : fget s.fr dj = some (.bool b)) (hne : (b == want) = false) (hd : Nat.ble (d + 1) n = true)
    (hK : RD P n ops (listed.setIfInBounds i true) todo held (s.put d (.when false (.bool false))) K) : RD P n ops listed ((i, false) :: todo) held s K := by
  intro hsel hc M F N a w hr
  obtain ⟨hc1, hc3⟩ := chkB_cons hi hc
  simp only [Bool.false_eq_true, if_false, beq_iff_eq] at hc1
  refine ⟨fun h0 => by rw [hc1] at h0; simp at h0, fun k hk => ?_⟩
  rw [hc1] at hk
  obtain rfl : k = i := by simpa using hk
  unfold wpOp
  simp only [hi]
  rw [wanted_of (o := ⟨some d, op, ty, pos, af, some (gj, want)⟩) hr rfl hj hb, if_neg (by rw [hne]; simp)]
  have := hK hsel hc3 M F N _ w (hr.put (lt_ble hd) (.when (x := .bool false) (c := false) (fun h => by cases h) (fun _ => rfl)))
  refine ⟨by simp, wpAnyC_mono (PostN.ext (Ext.refl _ _ _ _ _)) (fun _ _ h => h) _ _ _ _ this⟩
theorem dcwy {P : Program} {n : Nat} {ops : Array Oper} {fr : Fr} {σ : Sto} {K : ASt → Prop} {ty : TypeId} {pos : String} {af : Array Edge} {listed : Array Bool} {todo : List (Nat × Bool)} {held : List (Nat × List Nat)} {i d gj dj : Nat} {want : Bool} {f : FuncId} {xs : List Operand} {ats : Array TypeId} {args : List AV} {R : AV → Sto → Prop} (σ1 : Sto) (hi : ops[i]? = some ⟨some d, .call { callee := .value (.func f), args := xs.toArray, argTypes := ats }, ty, pos, af, some (gj, want)⟩) (hj : (ops[gj]?).bind (·.dst) = some dj) (hb : fget fr dj = some (.bool want)) (hf : ∀ args w, (callFunc f args).run P w = .ok (.enter f args) w) (h : SCall P f args σ1 R) (hd : Nat.ble (d + 1) n = true)
    (hargs : ArgsLe ⟨fr, σ⟩ xs args) (hsub : ∀ p ∈ σ1, p ∈ σ) (hb2 : HB ops i (σ.map (·.1)) (σ1.map (·.1)) held) (hK : ∀ x σ', R x σ' → (∀ p ∈ σ', (∃ q ∈ σ1, q.1 = p.1) ∨ Fresh p.1 σ) → RD P n ops (listed.setIfInBounds i true) todo held ⟨(d, x) :: fr, σ' ++ sdrop (σ1.map (·.1)) σ⟩ K) :
    RD P n ops listed ((i, false) :: todo) held ⟨fr, σ⟩ K := rd_heavy_yes hi hj hb (hop_call hf h (lt_ble hd) hargs hsub hK) (.inr ⟨fun r hr => by obtain ⟨p, hp, rfl⟩ := List.mem_map.1 hr; exact List.mem_map.2 ⟨p, hsub p hp, rfl⟩, hb2.held⟩)
end Go.Proofs.Ytkjfflabapeidaa
