/-
  The symbolic layer: slices that are made, appended to, copied into. No program is named here.
-/
import Derived.Test.YtkjfflabapeidaaSymF
namespace Go.Proofs.Ytkjfflabapeidaa
open Go.RowKit Go.ChangeShapes Go.WideShapes Go.ChangeAt Go.Deep
set_option linter.unusedSimpArgs false
set_option linter.unusedVariables false

/-! ### rows as flat cells -/
theorem flat_idx {sz i j m : Nat} (hi : i < m) (hj : j < sz) : i * sz + j < m * sz := by
  calc i * sz + j < i * sz + sz := by omega
    _ = (i + 1) * sz := by rw [Nat.succ_mul]
    _ ≤ m * sz := Nat.mul_le_mul_right _ (by omega)
theorem idx_div {sz i j : Nat} (h0 : 0 < sz) (hj : j < sz) : (i * sz + j) / sz = i := by rw [Nat.mul_comm, Nat.mul_add_div h0, Nat.div_eq_of_lt hj, Nat.add_zero]
theorem idx_mod {sz i j : Nat} (hj : j < sz) : (i * sz + j) % sz = j := by rw [Nat.mul_comm, Nat.mul_add_mod, Nat.mod_eq_of_lt hj]

/-- flat cells us of rows es -/
def RowsAt (M : Mp) (F : Nat → Prop) (w : World) (sz : Nat) (es : List (List AV)) (us : List Value) : Prop :=
  us.length = es.length * sz ∧ ∀ (i : Nat) (x : List AV) (j : Nat) (a : AV) (u : Value), es[i]? = some x → x[j]? = some a → us[i * sz + j]? = some u → VR M F w a u

section
variable {M : Mp} {F : Nat → Prop} {w w' : World} {sz : Nat} {es : List (List AV)} {us : List Value}
theorem RowsAt.one (h : RowsAt M F w sz es us) (h0 : 0 < sz) (hs : RowsOk sz es) : ∀ u ∈ us, u.oneCell' = true := by
  intro u hu
  obtain ⟨q, hq, rfl⟩ := List.mem_iff_getElem.1 hu
  have hi : q / sz < es.length := (Nat.div_lt_iff_lt_mul h0).2 (by rw [← h.1]; exact hq)
  have hrow := hs es[q / sz] (List.getElem_mem hi)
  have hj : q % sz < es[q / sz].length := by rw [hrow.1]; exact Nat.mod_lt _ h0
  have hdm : q / sz * sz + q % sz = q := by rw [Nat.mul_comm]; exact Nat.div_add_mod q _
  have := h.2 (q / sz) es[q / sz] (q % sz) es[q / sz][q % sz] us[q] (List.getElem?_eq_getElem hi) (List.getElem?_eq_getElem hj) (by rw [hdm]; exact List.getElem?_eq_getElem hq)
  exact this.cell_one (hrow.2 _ (List.getElem_mem hj))
theorem RowsAt.mono {M' : Mp} {F' : Nat → Prop} (hM : ∀ r b, M r = some b → M' r = some b) (hF : ∀ b, F b → F' b) (hS : Same F w w') (h : RowsAt M F w sz es us) : RowsAt M' F' w' sz es us :=
  ⟨h.1, fun i x j a u hi hj hu => (h.2 i x j a u hi hj hu).mono hM hF hS⟩
theorem RowsAt.append {ys : List (List AV)} {vs : List Value} (h : RowsAt M F w sz es us) (hs : RowsOk sz es) (k : RowsAt M F w sz ys vs) : RowsAt M F w sz (es ++ ys) (us ++ vs) := by
  refine ⟨by simp [h.1, k.1, Nat.add_mul], fun i x j a u hi hj hu => ?_⟩
  rcases Nat.lt_or_ge i es.length with hlt | hge
  · rw [List.getElem?_append_left hlt] at hi
    have hjs : j < sz := by rw [← (hs x (List.mem_of_getElem? hi)).1]; exact (List.getElem?_eq_some_iff.1 hj).1
    rw [List.getElem?_append_left (by rw [h.1]; exact flat_idx hlt hjs)] at hu
    exact h.2 i x j a u hi hj hu
  · rw [List.getElem?_append_right hge] at hi
    have hle : es.length * sz ≤ i * sz := Nat.mul_le_mul_right _ hge
    rw [List.getElem?_append_right (by rw [h.1]; omega), h.1] at hu
    refine k.2 (i - es.length) x j a u hi hj ?_
    rw [Nat.sub_mul, show i * sz - es.length * sz + j = i * sz + j - es.length * sz by omega]
    exact hu
end

/-- the rows that an operand tells -/
def Src (s : ASt) (x : Operand) (sz : Nat) (ys : List (List AV)) : Prop :=
  (∃ k, aev s x = some (.ro sz ys k)) ∨ (∃ z k, aev s x = some (.ro z [] k) ∧ ys = []) ∨
    ∃ t off len et es, aev s x = some (.own t off len) ∧ sget s.σ t = some (.arr et sz es) ∧ off + len ≤ es.length ∧ ys = (es.drop off).take len
theorem Src.reads {M : Mp} {F : Nat → Prop} {N n : Nat} {w : World} {s : ASt} {a : Act} (hr : Rel M F N n s a w) {x : Operand} {sz : Nat} (h0 : 0 < sz) {ys : List (List AV)} (h : Src s x sz ys) :
    ∃ A c news, a.eval x = .slice A ys.length c ∧ Reads w w.heap.size sz A ys.length news ∧ RowsAt M F w sz ys news ∧ RowsOk sz ys ∧ ys.length ≤ maxLen := by
  have empty : ∀ {A : Option Addr} {c : Nat}, a.eval x = .slice A 0 c → ys = [] → ∃ A c news, a.eval x = .slice A ys.length c ∧ Reads w w.heap.size sz A ys.length news ∧ RowsAt M F w sz ys news ∧ RowsOk sz ys ∧ ys.length ≤ maxLen := by
    rintro A c he rfl
    exact ⟨A, c, [], he, ⟨by simp, fun h => by simp at h⟩, ⟨by simp, fun i x j a u hi => by simp at hi⟩, fun x hx => by simp at hx, by simp⟩
  rcases h with ⟨k, h⟩ | ⟨z, k, h, rfl⟩ | ⟨t, off, len, et, es, h, hg, hle, rfl⟩
  · have hv := hr.aev h
    generalize hu : a.eval x = u at hv empty ⊢
    cases hv with
    | @ro _ _ b o _ cap us hb hs hc hrr hlc hm hf hn =>
      have hdm : ∀ q, q / sz * sz + q % sz = q := fun q => by rw [Nat.mul_comm]; exact Nat.div_add_mod q _
      have hat : ∀ q, q < ys.length * sz → ∃ e v, ys[q / sz]? = some e ∧ e[q % sz]? = some v := by
        intro q hq
        have hi : q / sz < ys.length := (Nat.div_lt_iff_lt_mul h0).2 hq
        have hrow := hs ys[q / sz] (List.getElem_mem hi)
        have hj : q % sz < ys[q / sz].length := by rw [hrow.1]; exact Nat.mod_lt _ h0
        exact ⟨_, _, List.getElem?_eq_getElem hi, List.getElem?_eq_getElem hj⟩
      refine ⟨_, _, (List.range (ys.length * sz)).map fun q => us (q / sz) (q % sz), rfl, ⟨by simp, fun _ => ⟨_, rfl, hr.st.flt b hb, fun j u hj => ?_⟩⟩, ⟨by simp, fun i e j v u hi hj hu => ?_⟩, hs, by omega⟩
      · have hjl : j < ys.length * sz := by have := (List.getElem?_eq_some_iff.1 hj).1; simpa using this
        have hu' : us (j / sz) (j % sz) = u := by simpa [hjl] using hj
        obtain ⟨e, v, he, hv⟩ := hat j hjl
        rw [Addr.add_lit, ← hu', ← hc _ e _ v he hv, Nat.add_assoc, hdm]
      · have hi' := (List.getElem?_eq_some_iff.1 hi).1
        have hj' : j < sz := by rw [← (hs e (List.mem_of_getElem? hi)).1]; exact (List.getElem?_eq_some_iff.1 hj).1
        have hq := flat_idx hi' hj'
        have hu' : us i j = u := by simpa [hq, idx_div h0 hj', idx_mod hj'] using hu
        rw [← hu']
        exact hrr i e j v hi hj
    | ro0 hm hA hf hn => exact empty rfl rfl
  · have hv := hr.aev h
    generalize hu : a.eval x = u at hv empty ⊢
    cases hv with
    | ro hb hs hc hrr hlc hm hf hn => exact empty rfl rfl
    | ro0 hm hA hf hn => exact empty rfl rfl
  · have hv := hr.aev h
    generalize hu : a.eval x = u at hv empty ⊢
    obtain ⟨_, hrows, h3⟩ := hr.st.ent _ (sget_mem hg)
    cases hv with
    | own0 => exact empty rfl (by simp)
    | @own _ _ _ g cc _ hM hlc hm =>
      rcases h3 with ⟨hv', _⟩ | ⟨g', c', vs, hM', hcl, hsz, hle', hmax, hvr⟩
      · rw [hM] at hv'; cases hv'
      · have hg' := hM'.symm.trans hM
        simp only [Option.some.injEq, Blk'.row.injEq] at hg'
        obtain ⟨q1, q2, q3⟩ := hg'
        subst q1
        subst q2
        subst q3
        have hylen : ((es.drop off).take len).length = len := by rw [List.length_take, List.length_drop]; omega
        have hfit : (off + len) * sz ≤ vs.size := by rw [hsz]; exact Nat.mul_le_mul_right _ hlc
        have hsplit : (off + len) * sz = off * sz + len * sz := Nat.add_mul _ _ _
        refine ⟨_, _, (vs.toList.drop (off * sz)).take (len * sz), by rw [hylen], ⟨?_, fun _ => ⟨_, rfl, hcl.lt, fun j u hj => ?_⟩⟩, ⟨?_, fun i e j v u hi hj hu => ?_⟩, fun e he => hrows e (List.mem_of_mem_drop (List.mem_of_mem_take he)), by omega⟩
        · rw [hylen, List.length_take, List.length_drop]; simp; omega
        · have hjl : j < len * sz := by have := (List.getElem?_eq_some_iff.1 hj).1; rw [List.length_take] at this; omega
          rw [List.getElem?_take_of_lt hjl, List.getElem?_drop] at hj
          rw [Addr.add_lit, hcl.cell]
          simpa using hj
        · rw [hylen, List.length_take, List.length_drop]; simp; omega
        · have hi' := (List.getElem?_eq_some_iff.1 hi).1
          rw [hylen] at hi'
          rw [List.getElem?_take_of_lt hi', List.getElem?_drop] at hi
          have hj' : j < sz := by rw [← (hrows e (List.mem_of_getElem? hi)).1]; exact (List.getElem?_eq_some_iff.1 hj).1
          rw [List.getElem?_take_of_lt (flat_idx hi' hj'), List.getElem?_drop] at hu
          refine hvr (off + i) e j v u hi hj ?_
          rw [Nat.add_mul, Nat.add_assoc]
          simpa using hu

section
variable {M : Mp} {F : Nat → Prop} {N n : Nat} {w w' : World} {s : ASt} {a : Act}
/-- entry t goes, and a new one, named N, comes: in t's block or in a new one -/
theorem Rel.move_ (hr : Rel M F N n s a w) {t : Nat} {x0 x : Ent} (ht : (t, x0) ∈ s.σ) (b : Blk') (ho : Only (fun k => blkOf M t = some k) w w')
    (hblk : ∀ g, blkOf (addM M N b) N = some g → blkOf M t = some g ∨ w.heap.size ≤ g) (hE : ER (addM M N b) F w' N x) :
    Rel (addM M N b) F (N + 1) n ⟨s.fr, (N, x) :: sdrop [t] s.σ⟩ a w' ∧ Ext M F N w s.σ (addM M N b) F (N + 1) w' ((N, x) :: sdrop [t] s.σ) ∧
      Fresh N (sdrop [t] s.σ) ∧ Only (fun g => ∃ q ∈ [t], blkOf M q = some g) w w' := by
  have hmm : ∀ r b', M r = some b' → addM M N b r = some b' := fun r b' h => addM_old hr.st.fresh b h
  have hSame : Same F w w' := fun g hg => ho.block g (hr.st.flt g hg) (fun e => hr.st.nof g ⟨_, ht, e⟩ hg)
  have hmem : ∀ p, p ∈ (sdrop [t] s.σ) → p ∈ s.σ ∧ p.1 ≠ t := fun p hp => by simpa using mem_sdrop hp
  have hnm : ∀ q ∈ s.σ, q.1 ≠ N := fun q hq => by have := hr.st.name hq; omega
  have hb : ∀ q ∈ s.σ, blkOf (addM M N b) q.1 = blkOf M q.1 := fun q hq => by unfold blkOf addM; rw [if_neg (hnm q hq)]
  have hext : Ext M F N w s.σ (addM M N b) F (N + 1) w' ((N, x) :: sdrop [t] s.σ) := by
    refine ⟨hmm, fun _ h => h, by omega, ho.mono fun i _ e => ⟨_, ht, e⟩, ?_, fun _ h => .inl h, ?_⟩
    · rintro g ⟨p, hp, hg⟩ hlt
      rcases List.mem_cons.1 hp with rfl | hp
      · rcases hblk g hg with h | h
        · exact ⟨_, ht, h⟩
        · omega
      · exact ⟨p, (hmem p hp).1, by rw [← hb p (hmem p hp).1]; exact hg⟩
    · intro p hp hlt
      rcases List.mem_cons.1 hp with rfl | hp
      · exact absurd hlt (Nat.lt_irrefl _)
      · exact ⟨p, (hmem p hp).1, rfl⟩
  have hdis : ∀ p ∈ s.σ, p.1 ≠ t → ∀ g, blkOf (addM M N b) N = some g → blkOf M p.1 = some g → False := by
    intro p hp hne g h1 h2
    rcases hblk g h1 with h | h
    · exact hne (hr.st.inj p hp _ ht g h2 h)
    · have := (hr.st.ent p hp).lt h2; omega
  refine ⟨⟨hr.size, hr.defers, fun i y hi => (hr.fr i y hi).mono hmm (fun _ h => h) hSame, ?_, ?_, ?_, fun b' hb' => Nat.lt_of_lt_of_le (hr.st.flt b' hb') ho.size, ?_⟩, hext, fun q hq => hnm q (hmem q hq).1, ho.mono fun i _ e => ⟨t, by simp, e⟩⟩
  · intro p hp
    rcases List.mem_cons.1 hp with rfl | hp
    · exact hE
    · obtain ⟨hp1, hp2⟩ := hmem p hp
      exact ER.mono hmm (fun _ h => h) hSame (fun g hg => ho.block g ((hr.st.ent p hp1).lt hg) (fun e => hp2 (hr.st.inj p hp1 _ ht g hg e))) (hr.st.ent p hp1)
  · intro p hp q hq g hpg hqg
    rcases List.mem_cons.1 hp with rfl | hp <;> rcases List.mem_cons.1 hq with rfl | hq
    · rfl
    · rw [hb q (hmem q hq).1] at hqg
      exact (hdis q (hmem q hq).1 (hmem q hq).2 g hpg hqg).elim
    · rw [hb p (hmem p hp).1] at hpg
      exact (hdis p (hmem p hp).1 (hmem p hp).2 g hqg hpg).elim
    · rw [hb p (hmem p hp).1] at hpg
      rw [hb q (hmem q hq).1] at hqg
      exact hr.st.inj p (hmem p hp).1 q (hmem q hq).1 g hpg hqg
  · rintro g ⟨p, hp, hg⟩ hF
    rcases List.mem_cons.1 hp with rfl | hp
    · rcases hblk g hg with h | h
      · exact hr.st.nof g ⟨_, ht, h⟩ hF
      · have := hr.st.flt g hF; omega
    · rw [hb p (hmem p hp).1] at hg
      exact hr.st.nof g ⟨p, (hmem p hp).1, hg⟩ hF
  · intro r hrN
    unfold addM
    rw [if_neg (by omega)]
    exact hr.st.fresh r (by omega)
/-- a new block that holds rows (and more) -/
theorem Rel.newArr (hr : Rel M F N n s a w) {e : TypeId} {sz c : Nat} {es : List (List AV)} {vs : Array Value} (h0 : 0 < sz) (hs : RowsOk sz es) (hcl : w'.heap[w.heap.size]? = some (.cells vs e (0, 0))) (hsame : ∀ k, k < w.heap.size → w'.heap[k]? = w.heap[k]?)
    (hos : w'.os = w.os ∧ w'.tape = w.tape ∧ w'.output = w.output) (hsz : w.heap.size ≤ w'.heap.size) (hvs : vs.size = c * sz) (hle : es.length ≤ c) (hm : c ≤ maxLen) (hrows : ∀ (i : Nat) (x : List AV) (j : Nat) (a : AV) (u : Value), es[i]? = some x → x[j]? = some a → vs[i * sz + j]? = some u → VR M F w a u) :
    Rel (addM M N (.row w.heap.size c sz)) F (N + 1) n ⟨s.fr, (N, .arr e sz es) :: s.σ⟩ a w' ∧ Ext M F N w s.σ (addM M N (.row w.heap.size c sz)) F (N + 1) w' ((N, .arr e sz es) :: s.σ) ∧ Fresh N s.σ ∧
      VR (addM M N (.row w.heap.size c sz)) F w' (.own N 0 es.length) (.slice (some ⟨w.heap.size, 0, none⟩) es.length c) := by
  have hE : ER (addM M N (.row w.heap.size c sz)) F w' N (.arr e sz es) := ⟨h0, hs, .inr ⟨w.heap.size, c, vs, addM_new _, hcl, hvs, hle, hm, fun i x j b u hi hj hu => (hrows i x j b u hi hj hu).mono (fun r b' h => addM_old hr.st.fresh _ h) (fun _ h => h) (fun g hg => hsame g (hr.st.flt g hg))⟩⟩
  obtain ⟨r1, e1, n1⟩ := hr.new_ (w' := w') (.row w.heap.size c sz) (.arr e sz es) hsame hos hsz (fun g hg => by simp only [blkOf, addM_new, Option.some.injEq] at hg; omega) hE
  refine ⟨r1, e1, n1, ?_⟩
  have := VR.own (M := addM M N (.row w.heap.size c sz)) (F := F) (w := w') (t := N) (off := 0) (len := es.length) (addM_new _) (by omega) hm
  simpa using this
end

section
variable {P : Program} {n : Nat} {s : ASt} {K : ASt → Prop} {ty t : TypeId} {d : Nat} {x y : Operand} {pos : String} {af : Array Edge}

/-- append onto nothing (nil, or a slice without room): the rows of x -/
theorem hop_append_new {e : TypeId} [Ty P t (.slice e)] {sz by_ : Nat} {zv : Value} [Tz P e sz by_ zv] (h0 : 0 < sz) (hz : zv.cells.size = sz) {z : Nat} {k : Rk} {ys : List (List AV)} (hb : aev s x = some (.ro z [] k)) (hk : k ≠ .any) (hy : Src s y sz ys) (hby : ys.length * by_ ≤ 140737488355328) (hd : d < n)
    (hK : ∀ r, Fresh r s.σ → K ⟨(d, .own r 0 ys.length) :: s.fr, (r, .arr e sz ys) :: s.σ⟩) : Hop P n (.call { callee := .builtin .append, args := #[x, y], argTypes := #[t, t] }) ty (some d) s [] K := by
  intro M F N a w o ho hty hdst hr next Q hnext
  have hbase := hr.aev hb
  obtain ⟨i, hi, hz0, hs0, hb0⟩ := Tz.parts P e
  obtain ⟨A, c, news, he, hreads, hrows, hok, hm⟩ := hy.reads hr h0
  have hx : ∃ B, a.eval x = .slice B 0 0 ∧ (B = none → a.eval x = .slice none 0 0) := by
    generalize a.eval x = u at hbase ⊢
    cases hbase with
    | ro hbb hs hc hrr hle hmm hf hn => cases k <;> first | exact (hn rfl).elim | (have := hf rfl; simp at this; subst this; exact ⟨_, rfl, fun h => by cases h⟩) | exact absurd rfl hk
    | ro0 hmm hA hf hn =>
      cases k with
      | nil => obtain rfl := hn rfl; obtain rfl := hA rfl; exact ⟨none, rfl, fun _ => rfl⟩
      | full => obtain rfl := hf rfl; exact ⟨_, rfl, fun h => by rw [h]⟩
      | any => exact absurd rfl hk
  obtain ⟨B, hx, hxn⟩ := hx
  by_cases hlen : ys = []
  · subst hlen
    have hrun : (execOp a.eval o).run P w = .ok (.value (.slice B 0 0)) w := by
      have hfirst : (Builtin.firstCells i.size 0 (.slice A 0 c)).run P w = .ok #[] w := by cases A <;> simp [Builtin.firstCells, loadCells, loadCellsFrom]
      simp only [execOp, ho, resolve, invoke, builtin, Sem.run_bind, Sem.run_pure, Result.andThen_ok, List.map_toArray, List.map_cons, List.map_nil, hx, he, List.length_nil]
      have hap : (Builtin.append_ #[t, t] o.type #[.slice B 0 0, .slice A 0 c]).run P w = .ok (.slice B 0 0) w := by
        cases B <;> simp [Builtin.append_, run_underlying (Ty.und (P := P) (t := t)), sizeOf, typeInfo, hi, Builtin.lenOf, hfirst, storeCells]
      rw [hap]
      rfl
    unfold Oper.wp
    rw [hrun, Oper.upon_value, hdst]
    have hE : ER (addM M N .virt) F w N (.arr e sz []) := ⟨h0, fun x hx => by simp at hx, .inl ⟨addM_new _, rfl⟩⟩
    obtain ⟨r1, e1, n1⟩ := hr.new_ (w' := w) .virt (.arr e sz []) (fun _ _ => rfl) ⟨rfl, rfl, rfl⟩ (Nat.le_refl _) (fun g hg => by simp [blkOf, addM_new] at hg) hE
    exact hnext _ F (N + 1) _ _ ⟨(d, .own N 0 0) :: s.fr, (N, .arr e sz []) :: s.σ⟩ (r1.put hd .own0) e1 (Only.refl _ _) (hK N n1)
  · have hpos : 0 < ys.length := by cases ys <;> first | exact absurd rfl hlen | simp
    obtain ⟨ad, rfl, hadb, hcell⟩ := hreads.2 hpos
    have hl : news.length = ys.length * i.size := by rw [hs0]; exact hrows.1
    have h63 : ((ys.length : Nat) : Int) ≤ 9223372036854775807 := by simp [maxLen] at hm; omega
    have h48 : ys.length * i.bytes ≤ 281474976710656 := by rw [hb0]; omega
    have hap : (Builtin.append_ #[t, t] o.type #[.slice B 0 0, .slice (some ad) ys.length c]).run P w = .ok (.slice (some ⟨w.heap.size, 0, none⟩) ys.length (grownCap w ys.length 0 e)) (w.drew.alloc (.cells (news.toArray ++ Builtin.zeroCells zv.cells (grownCap w ys.length 0 e - ys.length)) e)) := by
      cases B with
      | none => exact run_append_nil (P := P) w t o.type e i zv (Ty.und (P := P) (t := t)) hi hz0 ad ys.length c news hl hcell hpos h63 h48
      | some b =>
        have hn0 : Builtin.nextslicecap (0 + ys.length) 0 * i.bytes ≤ 281474976710656 := by
          rw [Nat.zero_add]
          unfold Builtin.nextslicecap
          rw [if_pos (by omega)]
          exact h48
        have := run_append_grow (P := P) w t o.type e i zv (Ty.und (P := P) (t := t)) hi hz0 b 0 0 [] (by simp) (fun j v h => by simp at h) ad ys.length c news hl hcell (by omega) (by simpa using h63) hn0
        simpa using this
    have hrun : (execOp a.eval o).run P w = .ok (.value (.slice (some ⟨w.heap.size, 0, none⟩) ys.length (grownCap w ys.length 0 e))) (w.drew.alloc (.cells (news.toArray ++ Builtin.zeroCells zv.cells (grownCap w ys.length 0 e - ys.length)) e)) := by
      simp only [execOp, ho, resolve, invoke, builtin, Sem.run_bind, Sem.run_pure, Result.andThen_ok, List.map_toArray, List.map_cons, List.map_nil, hx, he, hap]
    have hge := grownCap_ge w ys.length 0 e
    have hcm := grownCap_le_maxLen w ys.length 0 e hm
    unfold Oper.wp
    rw [hrun, Oper.upon_value, hdst]
    obtain ⟨r1, e1, n1, v1⟩ := hr.newArr (w' := w.drew.alloc (.cells (news.toArray ++ Builtin.zeroCells zv.cells (grownCap w ys.length 0 e - ys.length)) e)) (e := e) (c := grownCap w ys.length 0 e) h0 hok (heap_alloc_new w.drew _) (fun k hk => heap_alloc_old w.drew _ hk) ⟨rfl, rfl, rfl⟩ (by simp)
      (by rw [Array.size_append, List.size_toArray, size_zeroCells, hz, hrows.1, ← Nat.add_mul]; congr 1; omega) hge hcm
      (fun i' x' j b u hi' hj hu => by
        have hil := (List.getElem?_eq_some_iff.1 hi').1
        have hjs : j < sz := by rw [← (hok x' (List.mem_of_getElem? hi')).1]; exact (List.getElem?_eq_some_iff.1 hj).1
        rw [Array.getElem?_append_left (by simp; rw [hrows.1]; exact flat_idx hil hjs)] at hu
        exact hrows.2 i' x' j b u hi' hj (by simpa using hu))
    exact hnext _ F (N + 1) _ _ ⟨(d, .own N 0 ys.length) :: s.fr, (N, .arr e sz ys) :: s.σ⟩ (r1.put hd v1) e1 ⟨rfl, rfl, rfl, by simp, fun k hk _ => heap_alloc_old w.drew _ hk⟩ (hK N n1)

/-- append onto a row of the call's own -/
theorem hop_append_own {e : TypeId} [Ty P t (.slice e)] {sz by_ : Nat} {zv : Value} [Tz P e sz by_ zv] (hz : zv.cells.size = sz) {r len : Nat} {es ys : List (List AV)} (hb : aev s x = some (.own r 0 len)) (hg : sget s.σ r = some (.arr e sz es)) (hlen : len ≤ es.length) (hy : Src s y sz ys)
    (hmax : len + ys.length ≤ maxLen) (hby : (len + ys.length) * by_ ≤ 140737488355328) (hd : d < n)
    (hK : ∀ r', Fresh r' (sdrop [r] s.σ) → K ⟨(d, .own r' 0 (len + ys.length)) :: s.fr, (r', .arr e sz (es.take len ++ ys)) :: sdrop [r] s.σ⟩) : Hop P n (.call { callee := .builtin .append, args := #[x, y], argTypes := #[t, t] }) ty (some d) s [r] K := by
  intro M F N a w o ho hty hdst hr next Q hnext
  have hbase := hr.aev hb
  have hmem := sget_mem hg
  obtain ⟨h0, hrowsE, h3⟩ := hr.st.ent _ hmem
  obtain ⟨i, hi, hz0, hs0, hb0⟩ := Tz.parts P e
  obtain ⟨A, c, news, he, hreads, hrows, hok, hm⟩ := hy.reads hr h0
  have hokT : RowsOk sz (es.take len) := fun x hx => hrowsE x (List.mem_of_mem_take hx)
  have hlenT : (es.take len).length = len := by rw [List.length_take]; omega
  -- what the row holds
  have hown : ∃ v xs, a.eval x = v ∧ w.ownsRow 0 e sz v len xs ∧ RowsAt M F w sz (es.take len) xs ∧ (∀ g, v.ownBlock = some g → blkOf M r = some g) ∨ (∃ A, a.eval x = .slice A 0 0 ∧ len = 0 ∧ v = .slice A 0 0 ∧ xs = []) := by
    generalize a.eval x = u at hbase ⊢
    cases hbase with
    | own0 => exact ⟨_, [], .inr ⟨_, rfl, rfl, rfl, rfl⟩⟩
    | own hM hle hmm =>
      rcases h3 with ⟨hv', _⟩ | ⟨g, cc, vs, hM', hcl, hsz, hle', hmax', hvr⟩
      · rw [hM] at hv'; cases hv'
      · have hg' := hM'.symm.trans hM
        simp only [Option.some.injEq, Blk'.row.injEq] at hg'
        obtain ⟨q1, q2, q3⟩ := hg'
        subst q1
        subst q2
        subst q3
        have hfit : len * sz ≤ vs.size := by rw [hsz]; exact Nat.mul_le_mul_right _ (by omega)
        refine ⟨_, vs.toList.take (len * sz), .inl ⟨rfl, ⟨by rw [List.length_take]; simp; omega, .inr ⟨g, cc, vs, by simp, Nat.zero_le _, hcl, by omega, hmm, hsz, rfl⟩⟩, ⟨by rw [hlenT, List.length_take]; simp; omega, fun i' x' j b u hi' hj hu => ?_⟩, fun g2 hg2 => ?_⟩⟩
        · have hil := (List.getElem?_eq_some_iff.1 hi').1
          rw [hlenT] at hil
          have hjs : j < sz := by rw [← (hokT x' (List.mem_of_getElem? hi')).1]; exact (List.getElem?_eq_some_iff.1 hj).1
          rw [List.getElem?_take_of_lt hil] at hi'
          rw [List.getElem?_take_of_lt (flat_idx hil hjs)] at hu
          exact hvr i' x' j b u hi' hj (by simpa using hu)
        · simp only [Value.ownBlock, Option.some.injEq] at hg2
          subst hg2
          simp [blkOf, hM]
  obtain ⟨v, xs, hown | ⟨B, hx, rfl, rfl, rfl⟩⟩ := hown
  · obtain ⟨hx, hown, hrT, hblk⟩ := hown
    obtain ⟨v', w', hrun, ho', hg', hbl⟩ := run_append_any (P := P) w 0 t o.type e i zv sz by_ (Ty.und (P := P) (t := t)) hi hz0 hs0 hb0 hz h0 v len xs hown w.heap.size A ys.length c news hreads (hrows.one h0 hok) hmax hby (Nat.zero_le _)
    have hex : (execOp a.eval o).run P w = .ok (.value v') w' := by
      simp only [execOp, ho, resolve, invoke, builtin, Sem.run_bind, Sem.run_pure, Result.andThen_ok, List.map_toArray, List.map_cons, List.map_nil, hx, he, hrun]
    unfold Oper.wp
    rw [hex, Oper.upon_value, hdst]
    have honly : Only (fun k => blkOf M r = some k) w w' := ⟨hg'.os, hg'.tape, hg'.output, hg'.size, fun k hk hne => hg'.block k hk (fun e => hne (hblk k e.symm))⟩
    have hSame : Same F w w' := fun g hgF => honly.block g (hr.st.flt g hgF) (fun e => hr.st.nof g ⟨_, hmem, e⟩ hgF)
    have hcat : RowsAt M F w sz (es.take len ++ ys) (xs ++ news) := hrT.append hokT hrows
    have hokC : RowsOk sz (es.take len ++ ys) := fun x hx => (List.mem_append.1 hx).elim (hokT x) (hok x)
    rcases ho'.2 with ⟨rfl, hz'⟩ | ⟨g2, cap, cur, rfl, _, hg2, hn2, hm2, hs2, ht2⟩
    · have hl0 : len = 0 := by omega
      have hy0 : ys = [] := List.eq_nil_of_length_eq_zero (by omega)
      subst hl0
      subst hy0
      have hE : ER (addM M N .virt) F w' N (.arr e sz (es.take 0 ++ [])) := ⟨h0, fun x hx => by simp at hx, .inl ⟨addM_new _, by simp⟩⟩
      obtain ⟨r1, e1, n1, o1⟩ := hr.move_ hmem .virt honly (fun g hg => by simp [blkOf, addM_new] at hg) hE
      exact hnext _ F (N + 1) _ _ ⟨(d, .own N 0 (0 + 0)) :: s.fr, _⟩ (r1.put hd .own0) e1 o1 (hK N n1)
    · have hE : ER (addM M N (.row g2 cap sz)) F w' N (.arr e sz (es.take len ++ ys)) := by
        refine ⟨h0, hokC, .inr ⟨g2, cap, cur, addM_new _, hg2, hs2, by rw [List.length_append, hlenT]; exact hn2, hm2, fun i' x' j b u hi' hj hu => ?_⟩⟩
        refine VR.mono (fun r b' h => addM_old hr.st.fresh _ h) (fun _ h => h) hSame (hcat.2 i' x' j b u hi' hj ?_)
        have hil := (List.getElem?_eq_some_iff.1 hi').1
        rw [List.length_append, hlenT] at hil
        have hjs : j < sz := by rw [← (hokC x' (List.mem_of_getElem? hi')).1]; exact (List.getElem?_eq_some_iff.1 hj).1
        rw [← ht2, List.getElem?_take_of_lt (flat_idx hil hjs)]
        simpa using hu
      obtain ⟨r1, e1, n1, o1⟩ := hr.move_ hmem (.row g2 cap sz) honly (fun g hg => by
        simp only [blkOf, addM_new, Option.some.injEq] at hg
        subst hg
        rcases hbl with h | h
        · exact .inl (hblk g2 (h.symm.trans rfl))
        · simp only [Value.ownBlock, Option.some.injEq] at h
          exact .inr (by omega)) hE
      have hv := VR.own (M := addM M N (.row g2 cap sz)) (F := F) (w := w') (t := N) (off := 0) (len := len + ys.length) (addM_new _) (by omega) hm2
      simp only [Nat.zero_mul, Nat.sub_zero] at hv
      exact hnext _ F (N + 1) _ _ ⟨(d, .own N 0 (len + ys.length)) :: s.fr, _⟩ (r1.put hd hv) e1 o1 (hK N n1)
  · -- a row that has no block yet
    have hes : es.take 0 = [] := by simp
    by_cases hlen0 : ys = []
    · subst hlen0
      have hfirst : (Builtin.firstCells i.size 0 (.slice A 0 c)).run P w = .ok #[] w := by cases A <;> simp [Builtin.firstCells, loadCells, loadCellsFrom]
      have hap : (Builtin.append_ #[t, t] o.type #[.slice B 0 0, .slice A 0 c]).run P w = .ok (.slice B 0 0) w := by
        cases B <;> simp [Builtin.append_, run_underlying (Ty.und (P := P) (t := t)), sizeOf, typeInfo, hi, Builtin.lenOf, hfirst, storeCells]
      have hex : (execOp a.eval o).run P w = .ok (.value (.slice B 0 0)) w := by
        simp only [execOp, ho, resolve, invoke, builtin, Sem.run_bind, Sem.run_pure, Result.andThen_ok, List.map_toArray, List.map_cons, List.map_nil, hx, he, List.length_nil, hap]
      unfold Oper.wp
      rw [hex, Oper.upon_value, hdst]
      have hE : ER (addM M N .virt) F w N (.arr e sz (es.take 0 ++ [])) := ⟨h0, fun x hx => by simp at hx, .inl ⟨addM_new _, by simp⟩⟩
      obtain ⟨r1, e1, n1, o1⟩ := hr.move_ hmem .virt (Only.refl _ w) (fun g hg => by simp [blkOf, addM_new] at hg) hE
      exact hnext _ F (N + 1) _ _ ⟨(d, .own N 0 (0 + 0)) :: s.fr, _⟩ (r1.put hd .own0) e1 o1 (hK N n1)
    · have hpos : 0 < ys.length := by cases ys <;> first | exact absurd rfl hlen0 | simp
      obtain ⟨ad, rfl, hadb, hcell⟩ := hreads.2 hpos
      have hl : news.length = ys.length * i.size := by rw [hs0]; exact hrows.1
      have h63 : ((ys.length : Nat) : Int) ≤ 9223372036854775807 := by simp [maxLen] at hm; omega
      have h48 : ys.length * i.bytes ≤ 281474976710656 := by rw [hb0]; simp only [Nat.zero_add] at hby; omega
      have hap : (Builtin.append_ #[t, t] o.type #[.slice B 0 0, .slice (some ad) ys.length c]).run P w = .ok (.slice (some ⟨w.heap.size, 0, none⟩) ys.length (grownCap w ys.length 0 e)) (w.drew.alloc (.cells (news.toArray ++ Builtin.zeroCells zv.cells (grownCap w ys.length 0 e - ys.length)) e)) := by
        cases B with
        | none => exact run_append_nil (P := P) w t o.type e i zv (Ty.und (P := P) (t := t)) hi hz0 ad ys.length c news hl hcell hpos h63 h48
        | some b =>
          have hn0 : Builtin.nextslicecap (0 + ys.length) 0 * i.bytes ≤ 281474976710656 := by
            rw [Nat.zero_add]
            unfold Builtin.nextslicecap
            rw [if_pos (by omega)]
            exact h48
          have := run_append_grow (P := P) w t o.type e i zv (Ty.und (P := P) (t := t)) hi hz0 b 0 0 [] (by simp) (fun j v h => by simp at h) ad ys.length c news hl hcell (by omega) (by simpa using h63) hn0
          simpa using this
      have hex : (execOp a.eval o).run P w = .ok (.value (.slice (some ⟨w.heap.size, 0, none⟩) ys.length (grownCap w ys.length 0 e))) (w.drew.alloc (.cells (news.toArray ++ Builtin.zeroCells zv.cells (grownCap w ys.length 0 e - ys.length)) e)) := by
        simp only [execOp, ho, resolve, invoke, builtin, Sem.run_bind, Sem.run_pure, Result.andThen_ok, List.map_toArray, List.map_cons, List.map_nil, hx, he, hap]
      have hge := grownCap_ge w ys.length 0 e
      have hcm := grownCap_le_maxLen w ys.length 0 e hm
      unfold Oper.wp
      rw [hex, Oper.upon_value, hdst]
      have honly : Only (fun k => blkOf M r = some k) w (w.drew.alloc (.cells (news.toArray ++ Builtin.zeroCells zv.cells (grownCap w ys.length 0 e - ys.length)) e)) := ⟨rfl, rfl, rfl, by simp, fun k hk _ => heap_alloc_old w.drew _ hk⟩
      have hE : ER (addM M N (.row w.heap.size (grownCap w ys.length 0 e) sz)) F (w.drew.alloc (.cells (news.toArray ++ Builtin.zeroCells zv.cells (grownCap w ys.length 0 e - ys.length)) e)) N (.arr e sz (es.take 0 ++ ys)) := by
        rw [hes, List.nil_append]
        refine ⟨h0, hok, .inr ⟨w.heap.size, grownCap w ys.length 0 e, _, addM_new _, heap_alloc_new w.drew _, by rw [Array.size_append, List.size_toArray, size_zeroCells, hz, hrows.1, ← Nat.add_mul]; congr 1; omega, hge, hcm, fun i' x' j b u hi' hj hu => ?_⟩⟩
        have hil := (List.getElem?_eq_some_iff.1 hi').1
        have hjs : j < sz := by rw [← (hok x' (List.mem_of_getElem? hi')).1]; exact (List.getElem?_eq_some_iff.1 hj).1
        rw [Array.getElem?_append_left (by simp; rw [hrows.1]; exact flat_idx hil hjs)] at hu
        exact VR.mono (w := w) (M := M) (fun r b' h => addM_old hr.st.fresh _ h) (fun _ h => h) (fun g hg => heap_alloc_old w.drew _ (hr.st.flt g hg)) (hrows.2 i' x' j b u hi' hj (by simpa using hu))
      obtain ⟨r1, e1, n1, o1⟩ := hr.move_ hmem (.row w.heap.size (grownCap w ys.length 0 e) sz) honly (fun g hg => by
        simp only [blkOf, addM_new, Option.some.injEq] at hg
        exact .inr (by omega)) hE
      have hv := VR.own (M := addM M N (.row w.heap.size (grownCap w ys.length 0 e) sz)) (F := F) (w := w.drew.alloc (.cells (news.toArray ++ Builtin.zeroCells zv.cells (grownCap w ys.length 0 e - ys.length)) e)) (t := N) (off := 0) (len := 0 + ys.length) (addM_new _) (by omega) hcm
      rw [Nat.zero_mul, Nat.sub_zero] at hv
      have hv' : ∀ q, q = ys.length → VR (addM M N (.row w.heap.size (grownCap w ys.length 0 e) sz)) F (w.drew.alloc (.cells (news.toArray ++ Builtin.zeroCells zv.cells (grownCap w ys.length 0 e - ys.length)) e)) (.own N 0 (0 + ys.length)) (.slice (some ⟨w.heap.size, 0, none⟩) q (grownCap w ys.length 0 e)) := by
        intro q hq
        rw [show q = 0 + ys.length by omega]
        exact hv
      exact hnext _ F (N + 1) _ _ ⟨(d, .own N 0 (0 + ys.length)) :: s.fr, _⟩ (r1.put hd (hv' _ rfl)) e1 o1 (hK N n1)
end

end Go.Proofs.Ytkjfflabapeidaa
