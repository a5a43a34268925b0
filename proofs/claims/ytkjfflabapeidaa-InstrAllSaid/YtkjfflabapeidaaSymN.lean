/-
  The symbolic layer: append onto a part of a slice that is only read, whose capacity is its length. No program is named here.
-/
import Derived.Test.YtkjfflabapeidaaSymL
import Derived.ArgAppend
namespace Go.Proofs.Ytkjfflabapeidaa
open Go.RowKit Go.ChangeShapes Go.WideShapes Go.ChangeAt Go.Deep
set_option linter.unusedSimpArgs false
set_option linter.unusedVariables false

/-- a block that is new is frozen -/
theorem SR.growF {M : Mp} {F : Nat → Prop} {N : Nat} {w w' : World} {σ : Sto} (h : SR M F N w σ) (hold : ∀ k, k < w.heap.size → w'.heap[k]? = w.heap[k]?) (hsz : w.heap.size ≤ w'.heap.size) {g : Nat} (hg : w.heap.size ≤ g) (hg' : g < w'.heap.size) :
    SR M (fun b => F b ∨ b = g) N w' σ where
  ent p hp := ER.mono (fun _ _ h => h) (fun _ h => .inl h) (fun b hb => hold b (h.flt b hb)) (fun g hg => hold g ((h.ent p hp).lt hg)) (h.ent p hp)
  inj := h.inj
  nof g' hB hF := by
    rcases hF with hF | rfl
    · exact h.nof g' hB hF
    · have := h.lt hB; omega
  flt b hb := by
    rcases hb with hb | rfl
    · have := h.flt b hb; omega
    · exact hg'
  fresh := h.fresh
theorem hop_append_full {P : Program} {n : Nat} {s : ASt} {x y : Operand} {t ty : TypeId} {d : Nat} {K : ASt → Prop} {e : TypeId} [Ty P t (.slice e)] {sz by_ : Nat} {zv : Value} [Tz P e sz by_ zv] (h0 : 0 < sz) (hz : zv.cells.size = sz) {es ys : List (List AV)} (hb : aev s x = some (.ro sz es .full)) (hy : Src s y sz ys)
    (hmax : es.length + ys.length ≤ maxLen) (hby : (es.length + ys.length) * by_ ≤ 140737488355328) (hd : d < n) (hK : K ⟨(d, .ro sz (es ++ ys) .any) :: s.fr, s.σ⟩) :
    Hop P n (.call { callee := .builtin .append, args := #[x, y], argTypes := #[t, t] }) ty (some d) s [] K := by
  intro M F N a w o ho hty hdst hr next Q hnext
  have hbase := hr.aev hb
  obtain ⟨i, hi, hz0, hs0, hb0⟩ := Tz.parts P e
  obtain ⟨A, c, news, he, hreads, hrows, hok, hm⟩ := hy.reads hr h0
  obtain ⟨B, c0, olds, hx, hreads0, hrows0, hok0, hm0⟩ := Src.reads hr h0 (.inl ⟨_, hb⟩ : Src s x sz es)
  have hc0 : c0 = es.length := by
    rw [hx] at hbase
    cases hbase with
    | ro hbb hs hc hrr hle hmm hf hn => exact hf rfl
    | ro0 hmm hA hf hn => simpa using hf rfl
  subst hc0
  by_cases hlen : ys = []
  · subst hlen
    have hrun : (execOp a.eval o).run P w = .ok (.value (.slice B es.length es.length)) w := by
      have hfirst : (Builtin.firstCells i.size 0 (.slice A 0 c)).run P w = .ok #[] w := by cases A <;> simp [Builtin.firstCells, loadCells, loadCellsFrom]
      simp only [execOp, ho, resolve, invoke, builtin, Sem.run_bind, Sem.run_pure, Result.andThen_ok, List.map_toArray, List.map_cons, List.map_nil, hx, he, List.length_nil]
      have hap : (Builtin.append_ #[t, t] o.type #[.slice B es.length es.length, .slice A 0 c]).run P w = .ok (.slice B es.length es.length) w := by
        cases B <;> simp [Builtin.append_, run_underlying (Ty.und (P := P) (t := t)), sizeOf, typeInfo, hi, Builtin.lenOf, hfirst, storeCells]
      rw [hap]
      rfl
    unfold Oper.wp
    rw [hrun, Oper.upon_value, hdst]
    rw [List.append_nil] at hK
    rw [hx] at hbase
    exact hnext M F N _ w ⟨(d, .ro sz es .any) :: s.fr, s.σ⟩ (hr.put hd (VLe.any M F w _ hbase)) (Ext.refl _ _ _ _ _) (Only.refl _ _) hK
  · have hpos : 0 < ys.length := by cases ys <;> first | exact absurd rfl hlen | simp
    obtain ⟨ad, rfl, hadb, hcell⟩ := hreads.2 hpos
    have hap : ∃ v' w', (Builtin.append_ #[t, t] o.type #[.slice B es.length es.length, .slice (some ad) ys.length c]).run P w = .ok v' w' ∧ w'.ownsRow w.heap.size e sz v' (es.length + ys.length) (olds ++ news) ∧ w.grownBy w' none := by
      cases B with
      | none =>
        have hn0 : es.length = 0 := by
          rcases Nat.eq_zero_or_pos es.length with h | h
          · exact h
          · obtain ⟨ad', h', _⟩ := hreads0.2 h
            cases h'
        have ho0 : olds = [] := List.eq_nil_of_length_eq_zero (by have := hreads0.1; rw [hn0] at this; simpa using this)
        subst ho0
        rw [hn0]
        obtain ⟨v', w', h1, h2, h3, _⟩ := run_append_any (P := P) w w.heap.size t o.type e i zv sz by_ (Ty.und (P := P) (t := t)) hi hz0 hs0 hb0 hz h0 (.slice none 0 0) 0 [] ⟨by simp, .inl ⟨rfl, rfl⟩⟩ w.heap.size (some ad) ys.length c news hreads (hrows.one h0 hok) (by omega) (by rw [hn0] at hby; exact hby) (Nat.le_refl _)
        exact ⟨v', w', h1, h2, h3⟩
      | some b =>
        have hcell0 : ∀ j u, olds[j]? = some u → w.cell? (b.add j) = some u := by
          intro j u hu
          rcases Nat.eq_zero_or_pos es.length with h | h
          · have ho0 : olds = [] := List.eq_nil_of_length_eq_zero (by have := hreads0.1; rw [h] at this; simpa using this)
            rw [ho0] at hu; simp at hu
          · obtain ⟨ad', h', _, hc⟩ := hreads0.2 h
            injection h' with h'
            subst h'
            exact hc j u hu
        exact run_append_arg_grows (P := P) w t o.type e i zv sz by_ (Ty.und (P := P) (t := t)) hi hz0 hs0 hb0 hz h0 b es.length es.length olds hreads0.1 hcell0 ad ys.length c news hreads.1 hcell (by omega) hmax hby
    obtain ⟨v', w', hap, hown, hgr⟩ := hap
    have hrun : (execOp a.eval o).run P w = .ok (.value v') w' := by
      simp only [execOp, ho, resolve, invoke, builtin, Sem.run_bind, Sem.run_pure, Result.andThen_ok, List.map_toArray, List.map_cons, List.map_nil, hx, he, hap]
    unfold Oper.wp
    rw [hrun, Oper.upon_value, hdst]
    rcases hown.2 with ⟨_, hz'⟩ | ⟨g, cap, cur, rfl, hbg, hg, hn, hm2, hs2, ht2⟩
    · omega
    · have hgl : g < w'.heap.size := (Array.getElem?_eq_some_iff.1 hg).1
      have hold : ∀ k, k < w.heap.size → w'.heap[k]? = w.heap[k]? := fun k hk => hgr.block k hk (by simp)
      have hSame : Same F w w' := fun b hb => hold b (hr.st.flt b hb)
      have hsr := hr.st.growF hold hgr.size hbg hgl
      have hcat : RowsAt M F w sz (es ++ ys) (olds ++ news) := hrows0.append hok0 hrows
      have hokC : RowsOk sz (es ++ ys) := fun x hx => (List.mem_append.1 hx).elim (hok0 x) (hok x)
      have hat : ∀ (i' : Nat) (e' : List AV) (j : Nat) (a' : AV), (es ++ ys)[i']? = some e' → e'[j]? = some a' → ∃ u, (olds ++ news)[i' * sz + j]? = some u ∧ w'.cell? ⟨g, 0 + i' * sz + j, none⟩ = some u := by
        intro i' e' j a' hi' hj
        have hil := (List.getElem?_eq_some_iff.1 hi').1
        have hjs : j < sz := by rw [← (hokC e' (List.mem_of_getElem? hi')).1]; exact (List.getElem?_eq_some_iff.1 hj).1
        have hlt : i' * sz + j < (olds ++ news).length := by rw [hown.1, ← List.length_append]; exact flat_idx hil hjs
        refine ⟨_, List.getElem?_eq_getElem hlt, ?_⟩
        rw [Nat.zero_add, Cl.cell (ty := e) hg, ← Array.getElem?_toList]
        have h1 : (cur.toList.take ((es.length + ys.length) * sz))[i' * sz + j]? = some (olds ++ news)[i' * sz + j] := by rw [ht2]; exact List.getElem?_eq_getElem hlt
        rw [List.getElem?_take] at h1
        split at h1
        · exact h1
        · cases h1
      have hv : VR M (fun b => F b ∨ b = g) w' (.ro sz (es ++ ys) .any) (.slice (some ⟨g, 0, none⟩) (es.length + ys.length) cap) := by
        have := VR.ro (M := M) (F := fun b => F b ∨ b = g) (w := w') (es := es ++ ys) (k := .any) (b := g) (o := 0) (sz := sz) (cap := cap) (us := fun i' j => ((olds ++ news)[i' * sz + j]?).getD Go.undef) (.inr rfl) hokC
          (fun i' e' j a' hi' hj => by obtain ⟨u, hu, hc⟩ := hat i' e' j a' hi' hj; rw [hc, hu]; rfl)
          (fun i' e' j a' hi' hj => by
            obtain ⟨u, hu, _⟩ := hat i' e' j a' hi' hj
            rw [hu]
            exact VR.mono (fun _ _ h => h) (fun _ h => .inl h) hSame (hcat.2 i' e' j a' u hi' hj hu))
          (by rw [List.length_append]; exact hn) hm2 (fun h => by cases h) (fun h => by cases h)
        rwa [List.length_append] at this
      have hext : Ext M F N w s.σ M (fun b => F b ∨ b = g) N w' s.σ := by
        refine ⟨fun _ _ h => h, fun _ h => .inl h, Nat.le_refl _, ⟨hgr.os, hgr.tape, hgr.output, hgr.size, fun k hk _ => hold k hk⟩, fun _ h _ => h, fun b hb => ?_, fun p hp _ => ⟨p, hp, rfl⟩⟩
        rcases hb with hb | rfl
        · exact .inl hb
        · exact .inr (.inl hbg)
      have hr2 : Rel M (fun b => F b ∨ b = g) N n s a w' := hr.step hext hsr rfl
      exact hnext M _ N _ w' ⟨(d, .ro sz (es ++ ys) .any) :: s.fr, s.σ⟩ (hr2.put hd hv) hext ⟨hgr.os, hgr.tape, hgr.output, hgr.size, fun k hk _ => hold k hk⟩ hK
theorem daf {P : Program} {n : Nat} {ops : Array Oper} {fr : Fr} {σ : Sto} {K : ASt → Prop} {ty t : TypeId} {pos : String} {af : Array Edge} {listed : Array Bool} {todo : List (Nat × Bool)} {held : List (Nat × List Nat)} {i d : Nat} {x y : Operand} {e : TypeId} {sz by_ : Nat} {zv : Value} {es ys : List (List AV)}
    (hi : ops[i]? = some ⟨some d, .call { callee := .builtin .append, args := #[x, y], argTypes := #[t, t] }, ty, pos, af, none⟩) (i1 : Ty P t (.slice e)) (i2 : Tz P e sz by_ zv) (h0 : (decide (0 < sz) && zv.cells.size == sz) = true) (hx : aev ⟨fr, σ⟩ x = some (.ro sz es .full)) (hy : Src ⟨fr, σ⟩ y sz ys)
    (hmax : es.length + ys.length ≤ maxLen) (hby : (es.length + ys.length) * by_ ≤ 140737488355328) (hd : Nat.ble (d + 1) n = true) (hK : RD P n ops (listed.setIfInBounds i true) todo held ⟨(d, .ro sz (es ++ ys) .any) :: fr, σ⟩ K) : RD P n ops listed ((i, false) :: todo) held ⟨fr, σ⟩ K := by
  simp only [Bool.and_eq_true, decide_eq_true_eq, beq_iff_eq] at h0
  exact rd_new hi (hop_append_full h0.1 h0.2 hx hy hmax hby (lt_ble hd) hK)
end Go.Proofs.Ytkjfflabapeidaa
