/-
  The symbolic layer's operations that make memory or write. No program is named here.
-/
import Derived.Test.YtkjfflabapeidaaSymE
import Derived.Laws.CopyRow
namespace Go.Proofs.Ytkjfflabapeidaa
open Go.RowKit Go.ChangeShapes Go.WideShapes Go.ChangeAt Go.Deep
set_option linter.unusedSimpArgs false
set_option linter.unusedVariables false

/-- the names so far, and one more -/
def addM (M : Mp) (N : Nat) (b : Blk') : Mp := fun r => if r = N then some b else M r
def sset (σ : Sto) (r : Nat) (x : Ent) : Sto := (r, x) :: sdrop [r] σ

section
variable {M : Mp} {F : Nat → Prop} {N n : Nat} {w w' : World} {s : ASt} {a : Act}

theorem addM_old (hf : ∀ r, N ≤ r → M r = none) (b : Blk') {r : Nat} {x : Blk'} (h : M r = some x) : addM M N b r = some x := by
  unfold addM
  by_cases hr : r = N
  · subst hr; rw [hf r (Nat.le_refl _)] at h; cases h
  · rw [if_neg hr]; exact h
theorem addM_new (b : Blk') : addM M N b N = some b := by simp [addM]

/-- a new entry, named N: in a world that has grown by it -/
theorem Rel.new_ (hr : Rel M F N n s a w) (b : Blk') (x : Ent) (hsame : ∀ k, k < w.heap.size → w'.heap[k]? = w.heap[k]?) (hos : w'.os = w.os ∧ w'.tape = w.tape ∧ w'.output = w.output) (hsz : w.heap.size ≤ w'.heap.size)
    (hblk : ∀ g, blkOf (addM M N b) N = some g → w.heap.size ≤ g) (hE : ER (addM M N b) F w' N x) :
    Rel (addM M N b) F (N + 1) n ⟨s.fr, (N, x) :: s.σ⟩ a w' ∧ Ext M F N w s.σ (addM M N b) F (N + 1) w' ((N, x) :: s.σ) ∧ Fresh N s.σ := by
  have hmm : ∀ r b', M r = some b' → addM M N b r = some b' := fun r b' h => addM_old hr.st.fresh b h
  have honly : Only (Bs M s.σ) w w' := ⟨hos.1, hos.2.1, hos.2.2, hsz, fun k hk _ => hsame k hk⟩
  have hSame : Same F w w' := fun g hg => hsame g (hr.st.flt g hg)
  have hnm : ∀ q ∈ s.σ, q.1 ≠ N := fun q hq => by have := hr.st.name hq; omega
  have hb : ∀ q ∈ s.σ, blkOf (addM M N b) q.1 = blkOf M q.1 := fun q hq => by unfold blkOf addM; rw [if_neg (hnm q hq)]
  have hext : Ext M F N w s.σ (addM M N b) F (N + 1) w' ((N, x) :: s.σ) := by
    refine ⟨hmm, fun _ h => h, by omega, honly, ?_, fun _ h => .inl h, ?_⟩
    · rintro g ⟨p, hp, hg⟩ hlt
      rcases List.mem_cons.1 hp with rfl | hp
      · have := hblk g hg; omega
      · exact ⟨p, hp, by rw [← hb p hp]; exact hg⟩
    · intro p hp hlt
      rcases List.mem_cons.1 hp with rfl | hp
      · exact absurd hlt (Nat.lt_irrefl _)
      · exact ⟨p, hp, rfl⟩
  refine ⟨⟨hr.size, hr.defers, fun i y hi => (hr.fr i y hi).mono hmm (fun _ h => h) hSame, ?_, ?_, ?_, ?_, ?_⟩, hext, hnm⟩
  · intro p hp
    rcases List.mem_cons.1 hp with rfl | hp
    · exact hE
    · exact ER.mono hmm (fun _ h => h) hSame (fun g hg => hsame g ((hr.st.ent p hp).lt hg)) (hr.st.ent p hp)
  · intro p hp q hq g hpg hqg
    rcases List.mem_cons.1 hp with rfl | hp <;> rcases List.mem_cons.1 hq with rfl | hq
    · rfl
    · rw [hb q hq] at hqg
      have := hblk g hpg
      have := (hr.st.ent q hq).lt hqg
      omega
    · rw [hb p hp] at hpg
      have := hblk g hqg
      have := (hr.st.ent p hp).lt hpg
      omega
    · rw [hb p hp] at hpg
      rw [hb q hq] at hqg
      exact hr.st.inj p hp q hq g hpg hqg
  · rintro g ⟨p, hp, hg⟩ hF
    rcases List.mem_cons.1 hp with rfl | hp
    · have := hblk g hg
      have := hr.st.flt g hF
      omega
    · rw [hb p hp] at hg
      exact hr.st.nof g ⟨p, hp, hg⟩ hF
  · exact fun b' hb' => Nat.lt_of_lt_of_le (hr.st.flt b' hb') hsz
  · intro r hrN
    unfold addM
    rw [if_neg (by omega)]
    exact hr.st.fresh r (by omega)

/-- entry r is written, its block g alone -/
theorem Rel.set_ (hr : Rel M F N n s a w) {r g : Nat} {x x' : Ent} (hx : (r, x) ∈ s.σ) (hg : blkOf M r = some g) (ho : Only (fun k => k = g) w w') (hE : ER M F w' r x') :
    Rel M F N n ⟨s.fr, sset s.σ r x'⟩ a w' ∧ Ext M F N w s.σ M F N w' (sset s.σ r x') ∧ Only (fun g => ∃ q ∈ [r], blkOf M q = some g) w w' := by
  have hgF : ¬ F g := hr.st.nof g ⟨_, hx, hg⟩
  have hlt : g < w.heap.size := (hr.st.ent _ hx).lt hg
  have hSame : Same F w w' := fun b hb => ho.block b (hr.st.flt b hb) (fun e => hgF (e ▸ hb))
  have hmem : ∀ p ∈ sset s.σ r x', p = (r, x') ∨ (p ∈ s.σ ∧ p.1 ≠ r) := by
    intro p hp
    rcases List.mem_cons.1 hp with rfl | hp
    · exact .inl rfl
    · have := mem_sdrop hp
      exact .inr ⟨this.1, by simpa using this.2⟩
  have hBs : ∀ b, Bs M (sset s.σ r x') b → Bs M s.σ b := by
    rintro b ⟨p, hp, hpb⟩
    rcases hmem p hp with rfl | ⟨hp, _⟩
    · exact ⟨_, hx, hpb⟩
    · exact ⟨p, hp, hpb⟩
  have hext : Ext M F N w s.σ M F N w' (sset s.σ r x') := by
    refine ⟨fun _ _ h => h, fun _ h => h, Nat.le_refl _, ho.mono fun i _ e => ⟨_, hx, by rw [e]; exact hg⟩, fun b hb _ => hBs b hb, fun _ h => .inl h, ?_⟩
    intro p hp _
    rcases hmem p hp with rfl | ⟨hp, _⟩
    · exact ⟨_, hx, rfl⟩
    · exact ⟨p, hp, rfl⟩
  refine ⟨⟨hr.size, hr.defers, fun i y hi => (hr.fr i y hi).mono (fun _ _ h => h) (fun _ h => h) hSame, ?_, ?_, fun b hb => hr.st.nof b (hBs b hb), fun b hb => Nat.lt_of_lt_of_le (hr.st.flt b hb) ho.size, hr.st.fresh⟩, hext,
    ho.mono fun i _ e => ⟨r, by simp, by rw [e]; exact hg⟩⟩
  · intro p hp
    rcases hmem p hp with rfl | ⟨hp, hne⟩
    · exact hE
    · refine ER.mono (fun _ _ h => h) (fun _ h => h) hSame (fun b hb => ?_) (hr.st.ent p hp)
      refine ho.block b ((hr.st.ent p hp).lt hb) ?_
      rintro rfl
      exact hne (hr.st.inj p hp _ hx b hb hg)
  · intro p hp q hq b hpb hqb
    have h1 : ∃ p' ∈ s.σ, p'.1 = p.1 := by
      rcases hmem p hp with rfl | ⟨hp, _⟩
      · exact ⟨_, hx, rfl⟩
      · exact ⟨p, hp, rfl⟩
    have h2 : ∃ q' ∈ s.σ, q'.1 = q.1 := by
      rcases hmem q hq with rfl | ⟨hq, _⟩
      · exact ⟨_, hx, rfl⟩
      · exact ⟨q, hq, rfl⟩
    obtain ⟨p', hp', e1⟩ := h1
    obtain ⟨q', hq', e2⟩ := h2
    rw [← e1] at hpb ⊢
    rw [← e2] at hqb ⊢
    exact hr.st.inj p' hp' q' hq' b hpb hqb
end

def AV.cells : AV → List AV
  | .agg cs => cs
  | v => [v]
theorem VR.cells {M : Mp} {F : Nat → Prop} {w : World} {v : AV} {u : Value} (h : VR M F w v u) (hc : ∀ a ∈ v.cells, a.cell = true) : u.cells.size = v.cells.length ∧ (∀ (j : Nat) (a : AV) (x : Value), v.cells[j]? = some a → u.cells[j]? = some x → VR M F w a x) ∧ ∀ x ∈ u.cells.toList, x.oneCell' = true := by
  have single : v.cells = [v] → u.cells = #[u] → u.cells.size = v.cells.length ∧ (∀ (j : Nat) (a : AV) (x : Value), v.cells[j]? = some a → u.cells[j]? = some x → VR M F w a x) ∧ ∀ x ∈ u.cells.toList, x.oneCell' = true := by
    intro e1 e2
    rw [e1, e2]
    refine ⟨rfl, fun j a x hj hx => ?_, fun x hx => ?_⟩
    · cases j with
      | zero => simp at hj hx; subst hj; subst hx; exact h
      | succ j => simp at hj
    · have hx' : x = u := by simpa using hx
      subst hx'
      exact h.cell_one (hc v (by rw [e1]; simp))
  have hagg : ∀ {cs : List AV} {vs : Array Value}, v = .agg cs → u = .agg vs → u.cells.size = v.cells.length ∧ (∀ (j : Nat) (a : AV) (x : Value), v.cells[j]? = some a → u.cells[j]? = some x → VR M F w a x) ∧ ∀ x ∈ u.cells.toList, x.oneCell' = true := by
    rintro cs vs rfl rfl
    cases h with
    | agg hl hh =>
      refine ⟨hl, hh, fun x hx => ?_⟩
      obtain ⟨j, hj, rfl⟩ := List.mem_iff_getElem.1 hx
      have hj' : j < vs.size := by simpa [Value.cells] using hj
      have hjc : j < cs.length := by rw [← hl]; exact hj'
      have := hh j cs[j] vs[j] (List.getElem?_eq_getElem hjc) (Array.getElem?_eq_getElem hj')
      have hcell := hc cs[j] (by simp [AV.cells])
      simpa [Value.cells] using this.cell_one hcell
  cases v with
  | agg cs =>
    cases h with
    | agg hl hh => exact hagg rfl rfl
  | undef => exact absurd (hc .undef (List.mem_singleton.2 rfl)) (by simp [AV.cell])
  | tup cs => exact absurd (hc (.tup cs) (List.mem_singleton.2 rfl)) (by simp [AV.cell])
  | when c x => exact absurd (hc (.when c x) (List.mem_singleton.2 rfl)) (by simp [AV.cell])
  | val x => exact absurd (hc (.val x) (List.mem_singleton.2 rfl)) (by simp [AV.cell])
  | _ => cases h <;> exact single rfl rfl

section
variable {P : Program} {n : Nat} {s : ASt} {K : ASt → Prop} {ty t : TypeId} {d : Nat} {x y : Operand}

/-- a variable of its own, with a value -/
theorem hop_box {v : AV} (h : aev s x = some v) (hcb : v.cells.all AV.cell = true) (hd : d < n) (hK : ∀ r, Fresh r s.σ → K ⟨(d, .ptr r 0) :: s.fr, (r, .box t v.cells) :: s.σ⟩) : Hop P n (.box t x) ty (some d) s [] K := by
  have hc : ∀ a ∈ v.cells, a.cell = true := List.all_eq_true.1 hcb
  intro M F N a w o ho _ hdst hr next Q hnext
  obtain ⟨h1, h2, _⟩ := (hr.aev h).cells hc
  have hrun : (execOp a.eval o).run P w = .ok (.value (.pointer (some ⟨w.heap.size, 0, none⟩))) (w.alloc (.cells (a.eval x).cells t)) := by
    simp [execOp, ho, Instr.box, newVar, newRow]
  unfold Oper.wp
  rw [hrun, Oper.upon_value, hdst]
  have hE : ER (addM M N (.row w.heap.size v.cells.length 1)) F (w.alloc (.cells (a.eval x).cells t)) N (.box t v.cells) :=
    ⟨w.heap.size, _, addM_new _, Cl.new _ _ _, h1, fun j b u hj hu => (h2 j b u hj hu).mono (fun r b h => addM_old hr.st.fresh _ h) (fun _ h => h) (fun g hg => Below.heap_alloc _ _ _ (hr.st.flt g hg))⟩
  obtain ⟨r1, e1, n1⟩ := hr.new_ (w' := w.alloc (.cells (a.eval x).cells t)) (.row w.heap.size v.cells.length 1) (.box t v.cells) (fun k hk => Below.heap_alloc _ _ _ hk) ⟨rfl, rfl, rfl⟩ (by simp)
    (fun g hg => by simp [blkOf, addM_new] at hg; omega) hE
  refine hnext _ F (N + 1) _ _ ⟨(d, .ptr N 0) :: s.fr, (N, .box t v.cells) :: s.σ⟩ (r1.put hd (.ptr (addM_new _))) e1 ⟨rfl, rfl, rfl, by simp, fun k hk _ => Below.heap_alloc _ _ _ hk⟩ (hK N n1)
/-- a variable of its own, zero -/
theorem hop_alloc {sz by_ : Nat} {z : Value} [Tz P t sz by_ z] (hd : d < n) (hK : ∀ r, Fresh r s.σ → K ⟨(d, .ptr r 0) :: s.fr, (r, .box t (z.cells.toList.map ofConst)) :: s.σ⟩) : Hop P n (.alloc t) ty (some d) s [] K := by
  intro M F N a w o ho _ hdst hr next Q hnext
  obtain ⟨i, hi, hz, hs, _⟩ := Tz.parts P t
  have hrun : (execOp a.eval o).run P w = .ok (.value (.pointer (some ⟨w.heap.size, 0, none⟩))) (w.alloc (.cells z.cells t)) := by
    simp [execOp, ho, Instr.alloc, zeroValue, typeInfo, hi, hz, newVar, newRow]
  unfold Oper.wp
  rw [hrun, Oper.upon_value, hdst]
  have hE : ER (addM M N (.row w.heap.size (z.cells.toList.map ofConst).length 1)) F (w.alloc (.cells z.cells t)) N (.box t (z.cells.toList.map ofConst)) :=
    ⟨w.heap.size, _, addM_new _, Cl.new _ _ _, by simp, fun j b u hj hu => by
      rw [List.getElem?_map] at hj
      have hu' : z.cells.toList[j]? = some u := by simpa using hu
      rw [hu'] at hj
      obtain rfl := Option.some.inj hj
      exact ofConst_vr u⟩
  obtain ⟨r1, e1, n1⟩ := hr.new_ (w' := w.alloc (.cells z.cells t)) (.row w.heap.size (z.cells.toList.map ofConst).length 1) (.box t (z.cells.toList.map ofConst)) (fun k hk => Below.heap_alloc _ _ _ hk) ⟨rfl, rfl, rfl⟩ (by simp)
    (fun g hg => by simp only [blkOf, addM_new, Option.some.injEq] at hg; omega) hE
  exact hnext _ F (N + 1) _ _ ⟨(d, .ptr N 0) :: s.fr, (N, .box t (z.cells.toList.map ofConst)) :: s.σ⟩ (r1.put hd (.ptr (addM_new _))) e1 ⟨rfl, rfl, rfl, by simp, fun k hk _ => Below.heap_alloc _ _ _ hk⟩ (hK N n1)

theorem run_storeAt {w : World} {sz by_ : Nat} {z : Value} [Tz P t sz by_ z] {g o : Nat} {et : TypeId} {cur : Array Value} {v : Value} (hv : v.cells.size = sz) (hg : Cl w g et cur) (hfit : o + sz ≤ cur.size) (h1 : ∀ x ∈ v.cells.toList, x.oneCell' = true) :
    (Instr.storeAt t (.pointer (some ⟨g, o, none⟩)) v).run P w = .ok () (w.setRow g (cur.toList.take o ++ v.cells.toList ++ cur.toList.drop (o + sz)).toArray) := by
  obtain ⟨i, hi, hz, hs, _⟩ := Tz.parts P t
  have := run_storeCells_at P g o et v.cells.toList 0 cur w hg (by simp [hv]; omega) h1
  simp only [Nat.add_zero, Array.length_toList, hv] at this
  simp [Instr.storeAt, Instr.sureAddr, storeVar, sizeOf, typeInfo, hi, hs, hv, this]
theorem only_setRow {w : World} {g : Nat} {cs : Array Value} : Only (fun k => k = g) w (w.setRow g cs) := ⟨rfl, rfl, rfl, by simp, fun k _ hne => setRow_other w g k cs hne⟩

/-- a store into a variable -/
theorem hop_store_ptr {sz by_ : Nat} {z : Value} [Tz P t sz by_ z] {r off : Nat} {bt : TypeId} {cs : List AV} {v : AV} (h : aev s x = some (.ptr r off)) (hg : sget s.σ r = some (.box bt cs)) (hv : aev s y = some v) (hcb : v.cells.all AV.cell = true) (hl : v.cells.length = sz)
    (hfit : off + sz ≤ cs.length) (hK : K ⟨s.fr, sset s.σ r (.box bt (cs.take off ++ v.cells ++ cs.drop (off + sz)))⟩) : Hop P n (.store t x y) ty none s [r] K := by
  have hc : ∀ a ∈ v.cells, a.cell = true := List.all_eq_true.1 hcb
  intro M F N a w o ho _ hdst hr next Q hnext
  have hx := hr.aev h
  generalize hu : a.eval x = u at hx
  have hmem := sget_mem hg
  obtain ⟨g, vs, hM', hcl, hsz, hvr⟩ := hr.st.ent _ hmem
  obtain ⟨h1, h2, h3⟩ := (hr.aev hv).cells hc
  cases hx with
  | ptr hM =>
    have hg' := hM'.symm.trans hM
    simp only [Option.some.injEq, Blk'.row.injEq] at hg'
    obtain ⟨q1, _, _⟩ := hg'
    subst q1
    have hrun := run_storeAt (P := P) (w := w) (t := t) (g := g) (o := off) (et := bt) (cur := vs) (v := a.eval y) (by rw [h1, hl]) hcl (by rw [hsz]; exact hfit) h3
    have hex : (execOp a.eval o).run P w = .ok .skip (w.setRow g (vs.toList.take off ++ (a.eval y).cells.toList ++ vs.toList.drop (off + sz)).toArray) := by
      simp [execOp, ho, hu] at hrun ⊢
      simp [hrun]
    unfold Oper.wp
    rw [hex, Oper.upon_skip, hdst]
    have hbl : blkOf M r = some g := by simp [blkOf, hM]
    have hF : ¬ F g := hr.st.nof g ⟨_, hmem, hbl⟩
    have hSame : Same F w (w.setRow g (vs.toList.take off ++ (a.eval y).cells.toList ++ vs.toList.drop (off + sz)).toArray) := fun b hb => setRow_other w g b _ (fun e => hF (e ▸ hb))
    have hlen1 : (cs.take off).length = off := by rw [List.length_take]; omega
    have hlen2 : (vs.toList.take off).length = off := by rw [List.length_take]; simp; omega
    have hE : ER M F (w.setRow g (vs.toList.take off ++ (a.eval y).cells.toList ++ vs.toList.drop (off + sz)).toArray) r (.box bt (cs.take off ++ v.cells ++ cs.drop (off + sz))) := by
      refine ⟨g, _, ?_, setRow_heap w g vs _ bt (0, 0) hcl, by simp [h1, hsz], fun j b u hj hu' => ?_⟩
      · rw [hM']; simp [hl]; omega
      · refine VR.mono (fun _ _ h => h) (fun _ h => h) hSame ?_
        simp only [List.getElem?_toArray] at hu'
        rw [List.append_assoc] at hj hu'
        rcases Nat.lt_or_ge j off with hjo | hjo
        · rw [List.getElem?_append_left (by omega), List.getElem?_take_of_lt hjo] at hj
          rw [List.getElem?_append_left (by omega), List.getElem?_take_of_lt hjo] at hu'
          exact hvr j b u hj (by simpa using hu')
        · rw [List.getElem?_append_right (by omega), hlen1] at hj
          rw [List.getElem?_append_right (by omega), hlen2] at hu'
          rcases Nat.lt_or_ge (j - off) sz with hjs | hjs
          · rw [List.getElem?_append_left (by omega)] at hj
            rw [List.getElem?_append_left (by simp [h1, hl]; omega)] at hu'
            exact h2 _ b u hj (by simpa using hu')
          · rw [List.getElem?_append_right (by omega), hl, List.getElem?_drop] at hj
            rw [List.getElem?_append_right (by simp [h1, hl]; omega), List.getElem?_drop] at hu'
            simp only [Array.length_toList, h1, hl] at hu'
            exact hvr _ b u hj (by simpa using hu')
    obtain ⟨r1, e1, o1⟩ := hr.set_ hmem hbl only_setRow hE
    exact hnext M F N _ _ _ r1 e1 o1 hK

/-- a store of one cell into a row of the call's own -/
theorem hop_store_ow {by_ : Nat} {z : Value} [Tz P t 1 by_ z] {r i off : Nat} {et : TypeId} {sz : Nat} {es : List (List AV)} {e : List AV} {v : AV} (h : aev s x = some (.ow r i off)) (hg : sget s.σ r = some (.arr et sz es)) (he : es[i]? = some e) (ho' : off < e.length) (hv : aev s y = some v) (hc : v.cell = true)
    (hK : K ⟨s.fr, sset s.σ r (.arr et sz (es.set i (e.set off v)))⟩) : Hop P n (.store t x y) ty none s [r] K := by
  intro M F N a w o ho _ hdst hr next Q hnext
  have hx := hr.aev h
  generalize hu : a.eval x = u at hx
  have hmem := sget_mem hg
  obtain ⟨h0, hrows, h3⟩ := hr.st.ent _ hmem
  have hvv := hr.aev hv
  have hone := hvv.cell_one hc
  have hcells : (a.eval y).cells = #[a.eval y] := by
    generalize a.eval y = u at hvv hone
    cases u <;> first | rfl | (simp [Value.oneCell'] at hone)
  have hel := hrows e (List.mem_of_getElem? he)
  cases hx with
  | ow hM =>
    rcases h3 with ⟨hv', _⟩ | ⟨g, cc, vs, hM', hcl, hsz, hle, hmax, hvr⟩
    · rw [hM] at hv'; cases hv'
    · have hg' := hM'.symm.trans hM
      simp only [Option.some.injEq, Blk'.row.injEq] at hg'
      obtain ⟨q1, q2, q3⟩ := hg'
      subst q1
      subst q2
      subst q3
      have hi : i < es.length := (List.getElem?_eq_some_iff.1 he).1
      have ho2 : off < sz := by rw [← hel.1]; exact ho'
      have hlt : i * sz + off < vs.size := by
        rw [hsz]
        calc i * sz + off < i * sz + sz := by omega
          _ = (i + 1) * sz := by rw [Nat.succ_mul]
          _ ≤ cc * sz := Nat.mul_le_mul_right _ (by omega)
      have hrun := run_storeAt (P := P) (w := w) (t := t) (g := g) (o := i * sz + off) (et := et) (cur := vs) (v := a.eval y) (by simp [hcells]) hcl (by omega) (by rw [hcells]; intro x hx; simp at hx; subst hx; exact hone)
      have hex : (execOp a.eval o).run P w = .ok .skip (w.setRow g (vs.toList.take (i * sz + off) ++ [a.eval y] ++ vs.toList.drop (i * sz + off + 1)).toArray) := by
        rw [hcells] at hrun
        simp [execOp, ho, hu] at hrun ⊢
        simp [hrun]
      have hset : (vs.toList.take (i * sz + off) ++ [a.eval y] ++ vs.toList.drop (i * sz + off + 1)) = vs.toList.set (i * sz + off) (a.eval y) := by
        rw [List.set_eq_take_append_cons_drop, if_pos (by simpa using hlt)]
        simp
      rw [hset] at hex
      unfold Oper.wp
      rw [hex, Oper.upon_skip, hdst]
      have hbl : blkOf M r = some g := by simp [blkOf, hM]
      have hF : ¬ F g := hr.st.nof g ⟨_, hmem, hbl⟩
      have hSame : Same F w (w.setRow g (vs.toList.set (i * sz + off) (a.eval y)).toArray) := fun b hb => setRow_other w g b _ (fun e => hF (e ▸ hb))
      have hE : ER M F (w.setRow g (vs.toList.set (i * sz + off) (a.eval y)).toArray) r (.arr et sz (es.set i (e.set off v))) := by
        refine ⟨h0, ?_, .inr ⟨g, cc, _, hM', setRow_heap w g vs _ et (0, 0) hcl, by simp [hsz], by simpa using hle, hmax, fun k xs j b u hk hj hu' => ?_⟩⟩
        · intro xs hxs
          rcases List.mem_or_eq_of_mem_set hxs with hxs | rfl
          · exact hrows xs hxs
          · refine ⟨by simpa using hel.1, fun b hb => ?_⟩
            rcases List.mem_or_eq_of_mem_set hb with hb | rfl
            · exact hel.2 b hb
            · exact hc
        · refine VR.mono (fun _ _ h => h) (fun _ h => h) hSame ?_
          simp only [List.getElem?_toArray] at hu'
          by_cases hki : i = k
          · subst hki
            rw [List.getElem?_set_self hi] at hk
            obtain rfl := Option.some.inj hk
            by_cases hjo : off = j
            · subst hjo
              rw [List.getElem?_set_self (by simpa using hlt)] at hu'
              rw [List.getElem?_set_self ho'] at hj
              obtain rfl := Option.some.inj hu'
              obtain rfl := Option.some.inj hj
              exact hvv
            · rw [List.getElem?_set_ne (by omega)] at hu'
              rw [List.getElem?_set_ne hjo] at hj
              exact hvr i e j b u he hj (by simpa using hu')
          · rw [List.getElem?_set_ne hki] at hk
            have hjl : j < sz := by rw [← (hrows xs (List.mem_of_getElem? hk)).1]; exact (List.getElem?_eq_some_iff.1 hj).1
            have hne : i * sz + off ≠ k * sz + j := by
              intro heq
              have h1 : (i * sz + off) / sz = i := by rw [Nat.mul_comm, Nat.mul_add_div h0, Nat.div_eq_of_lt ho2, Nat.add_zero]
              have h2 : (k * sz + j) / sz = k := by rw [Nat.mul_comm, Nat.mul_add_div h0, Nat.div_eq_of_lt hjl, Nat.add_zero]
              rw [heq, h2] at h1
              exact hki h1.symm
            rw [List.getElem?_set_ne hne] at hu'
            exact hvr k xs j b u hk hj (by simpa using hu')
      obtain ⟨r1, e1, o1⟩ := hr.set_ hmem hbl only_setRow hE
      exact hnext M F N _ _ _ r1 e1 o1 hK
end

end Go.Proofs.Ytkjfflabapeidaa
