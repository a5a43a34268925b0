/-
  The symbolic layer: literals of slices and structs, parts of slices, make, copy, bytes as text, closures, rows that nobody writes any more. No program is named here.
-/
import Derived.Test.YtkjfflabapeidaaSymH
namespace Go.Proofs.Ytkjfflabapeidaa
open Go.RowKit Go.ChangeShapes Go.WideShapes Go.ChangeAt Go.Deep
set_option linter.unusedSimpArgs false
set_option linter.unusedVariables false

theorem foldl_set (l : List Value) : ∀ (m off : Nat) (cells : Array Value), ((l.zipIdx m).foldl (fun (cs : Array Value) (p : Value × Nat) => cs.setIfInBounds (off + p.2) p.1) cells).size = cells.size ∧
    ∀ q, ((l.zipIdx m).foldl (fun (cs : Array Value) (p : Value × Nat) => cs.setIfInBounds (off + p.2) p.1) cells)[q]? = if off + m ≤ q ∧ q < off + m + l.length ∧ q < cells.size then l[q - (off + m)]? else cells[q]? := by
  induction l with
  | nil => intro m off cells; simp; intro q h1 h2; omega
  | cons v l ih =>
    intro m off cells
    obtain ⟨h1, h2⟩ := ih (m + 1) off (cells.setIfInBounds (off + m) v)
    simp only [List.zipIdx_cons, List.foldl_cons]
    refine ⟨by rw [h1]; simp, fun q => ?_⟩
    rw [h2]
    simp only [Array.size_setIfInBounds, List.length_cons]
    by_cases hq : off + m = q
    · subst hq
      rw [if_neg (by omega)]
      by_cases hs : off + m < cells.size
      · rw [if_pos ⟨by omega, by omega, hs⟩, Nat.sub_self]
        simp [hs]
      · rw [if_neg (by omega)]
        simp [hs]
    · by_cases hc : off + (m + 1) ≤ q ∧ q < off + (m + 1) + l.length ∧ q < cells.size
      · rw [if_pos hc, if_pos ⟨by omega, by omega, hc.2.2⟩, show q - (off + m) = (q - (off + (m + 1))) + 1 by omega, List.getElem?_cons_succ]
      · rw [if_neg hc, if_neg (by omega), Array.getElem?_setIfInBounds_ne hq]
theorem fold_cells (v : Value) (off : Nat) (cells : Array Value) : (v.cells.zipIdx.foldl (fun (cs : Array Value) (p : Value × Nat) => cs.setIfInBounds (off + p.2) p.1) cells).size = cells.size ∧
    ∀ q, (v.cells.zipIdx.foldl (fun (cs : Array Value) (p : Value × Nat) => cs.setIfInBounds (off + p.2) p.1) cells)[q]? = if off ≤ q ∧ q < off + v.cells.size ∧ q < cells.size then v.cells[q - off]? else cells[q]? := by
  have := foldl_set v.cells.toList 0 off cells
  rw [← Array.foldl_toList, Array.toList_zipIdx]
  simpa using this

def enumF {α : Type} : Nat → List α → List (Nat × α)
  | _, [] => []
  | k, x :: xs => (k, x) :: enumF (k + 1) xs
theorem fill_seq {sz : Nat} : ∀ (vs : List Value) (k : Nat) (cells : Array Value), (∀ v ∈ vs, v.cells.size = sz) → (k + vs.length) * sz ≤ cells.size →
    ∃ r, Instr.fill (fun i => some (i * sz, sz)) cells (enumF k vs) = some r ∧ r.size = cells.size ∧ (∀ q, q < k * sz → r[q]? = cells[q]?) ∧ ∀ (i : Nat) (v : Value), vs[i]? = some v → ∀ j, j < sz → r[(k + i) * sz + j]? = v.cells[j]?
  | [], k, cells, _, _ => ⟨cells, rfl, rfl, fun _ _ => rfl, fun i v h => by simp at h⟩
  | v :: vs, k, cells, hs, hfit => by
    have hv := hs v (by simp)
    have hk : (k + 1) * sz ≤ cells.size := by
      refine Nat.le_trans (Nat.mul_le_mul_right _ ?_) hfit
      rw [List.length_cons]; omega
    have hk' : k * sz + sz ≤ cells.size := by rw [Nat.succ_mul] at hk; exact hk
    obtain ⟨f1, f2⟩ := fold_cells v (k * sz) cells
    obtain ⟨r, h1, h2, h3, h4⟩ := fill_seq vs (k + 1) _ (fun v hv => hs v (by simp [hv])) (by rw [f1]; refine Nat.le_trans (Nat.le_of_eq ?_) hfit; rw [List.length_cons, Nat.add_assoc, Nat.add_comm 1])
    refine ⟨r, ?_, by rw [h2, f1], fun q hq => ?_, fun i u hu j hj => ?_⟩
    · simp only [enumF, Instr.fill]
      rw [if_neg (by simp [hv]; omega)]
      exact h1
    · rw [h3 q (by rw [Nat.succ_mul]; omega), f2, if_neg (by omega)]
    · cases i with
      | zero =>
        obtain rfl : v = u := by simpa using hu
        rw [Nat.add_zero, h3 _ (by rw [Nat.succ_mul]; omega), f2, if_pos ⟨by omega, by omega, by omega⟩]
        rw [Nat.add_sub_cancel_left]
      | succ i =>
        have := h4 i u (by simpa using hu) j hj
        rwa [show k + (i + 1) = k + 1 + i by omega]

/-- operands and what they hold -/
inductive AEvs (s : ASt) : List Operand → List AV → Prop
  | nil : AEvs s [] []
  | cons {x : Operand} {xs : List Operand} {v : AV} {vs : List AV} (h : aev s x = some v) (r : AEvs s xs vs) : AEvs s (x :: xs) (v :: vs)
theorem AEvs.at_ {M : Mp} {F : Nat → Prop} {N n : Nat} {s : ASt} {a : Act} {w : World} (hr : Rel M F N n s a w) {xs : List Operand} {vs : List AV} (h : AEvs s xs vs) : (xs.map a.eval).length = vs.length ∧ ∀ (i : Nat) (v : AV), vs[i]? = some v → ∃ u, (xs.map a.eval)[i]? = some u ∧ VR M F w v u := by
  induction h with
  | nil => exact ⟨rfl, fun i v h => by simp at h⟩
  | @cons x xs v vs hx _ ih =>
    refine ⟨by simp only [List.map_cons, List.length_cons]; rw [ih.1], fun i u hu => ?_⟩
    cases i with
    | zero =>
      obtain rfl : v = u := by simpa using hu
      exact ⟨a.eval x, by simp, hr.aev hx⟩
    | succ i => simpa using ih.2 i u (by simpa using hu)
theorem enumF_map {α β : Type} (f : α → β) : ∀ (k : Nat) (xs : List α), (enumF k xs).map (fun p => (p.1, f p.2)) = enumF k (xs.map f)
  | _, [] => rfl
  | k, x :: xs => by simp [enumF, enumF_map f (k + 1) xs]

section
variable {P : Program} {n : Nat} {s : ASt} {K : ASt → Prop} {ty t : TypeId} {d : Nat} {x y : Operand}

/-- a slice literal (and what is handed in for '...') -/
theorem hop_buildSlice {e : TypeId} [Ty P t (.slice e)] {sz by_ : Nat} {zv : Value} [Tz P e sz by_ zv] {len : Nat} {parts : Array (Nat × Operand)} {xs : List Operand} {vs : List AV} (hp : parts.toList = enumF 0 xs) (hv : AEvs s xs vs) (hlen : (len == vs.length) = true) (h0 : (decide (0 < sz) && decide (len * sz ≤ 16777216)) = true)
    (hc : (vs.all fun v => v.cells.length == sz && v.cells.all AV.cell) = true) (hd : d < n) (hK : ∀ r, Fresh r s.σ → K ⟨(d, .own r 0 len) :: s.fr, (r, .arr e sz (vs.map AV.cells)) :: s.σ⟩) : Hop P n (.buildSlice t len parts) ty (some d) s [] K := by
  simp only [beq_iff_eq] at hlen
  simp only [Bool.and_eq_true, decide_eq_true_eq] at h0
  obtain ⟨h0, h24⟩ := h0
  subst hlen
  intro M F N a w o ho _ hdst hr next Q hnext
  obtain ⟨i, hi, hz0, hs0, _⟩ := Tz.parts P e
  obtain ⟨hl, hat⟩ := hv.at_ hr
  have hck : ∀ v ∈ vs, v.cells.length = sz ∧ ∀ a ∈ v.cells, a.cell = true := fun v hv => by
    have := List.all_eq_true.1 hc v hv
    simp only [Bool.and_eq_true, beq_iff_eq] at this
    exact ⟨this.1, List.all_eq_true.1 this.2⟩
  have hsz : ∀ u ∈ xs.map a.eval, u.cells.size = sz := by
    intro u hu
    obtain ⟨k, hk, rfl⟩ := List.mem_iff_getElem.1 hu
    have hkv : k < vs.length := by rw [← hl]; exact hk
    obtain ⟨u', hu', hvr⟩ := hat k vs[k] (List.getElem?_eq_getElem hkv)
    rw [List.getElem?_eq_getElem hk] at hu'
    obtain rfl := Option.some.inj hu'
    obtain ⟨q1, q2⟩ := hck vs[k] (List.getElem_mem hkv)
    rw [(hvr.cells q2).1, q1]
  have hparts : (parts.map fun (p : Nat × Operand) => (p.1, a.eval p.2)).toList = enumF 0 (xs.map a.eval) := by
    rw [Array.toList_map, hp]
    exact enumF_map a.eval 0 xs
  have key : ∀ cells : Array Value, cells.size = vs.length * sz → ∃ r : Array Value, Instr.fill (fun i => some (i * sz, sz)) cells (enumF 0 (xs.map a.eval)) = some r ∧ r.size = vs.length * sz ∧
      ∀ (i : Nat) (x : List AV) (j : Nat) (b : AV) (u : Value), (vs.map AV.cells)[i]? = some x → x[j]? = some b → r[i * sz + j]? = some u → VR M F w b u := by
    intro cells hcs
    obtain ⟨r, f1, f2, _, f4⟩ := fill_seq (xs.map a.eval) 0 cells hsz (by rw [hl, hcs, Nat.zero_add]; exact Nat.le_refl _)
    refine ⟨r, f1, f2.trans hcs, fun i x j b u hi hj hu => ?_⟩
    rw [List.getElem?_map] at hi
    obtain ⟨v, hv, rfl⟩ := Option.map_eq_some_iff.1 hi
    obtain ⟨u', hu', hvr⟩ := hat i v hv
    obtain ⟨q1, q2⟩ := hck v (List.mem_of_getElem? hv)
    have hjs : j < sz := by rw [← q1]; exact (List.getElem?_eq_some_iff.1 hj).1
    have := f4 i u' hu' j hjs
    rw [Nat.zero_add, hu] at this
    exact (hvr.cells q2).2.1 j b u hj this.symm
  have hrun : ∃ r : Array Value, (execOp a.eval o).run P w = .ok (.value (.slice (some ⟨w.heap.size, 0, none⟩) vs.length vs.length)) (w.alloc (.cells r e)) ∧ r.size = vs.length * sz ∧
      ∀ (i : Nat) (x : List AV) (j : Nat) (b : AV) (u : Value), (vs.map AV.cells)[i]? = some x → x[j]? = some b → r[i * sz + j]? = some u → VR M F w b u := by
    have h24' : ¬ (2 ^ 24 < vs.length * sz) := by omega
    by_cases hz : vs.length * sz = 0
    · obtain ⟨r, f1, f2, f3⟩ := key #[] (by simp [hz])
      refine ⟨r, ?_, f2, f3⟩
      rw [← hparts, Array.toList_map] at f1
      subst hs0
      simp only [execOp, ho, Instr.buildSlice, Sem.run_bind, run_underlying (Ty.und (P := P) (t := t)), Result.andThen_ok, sizeOf, Sem.run_pure]
      simp [h24', hz, typeInfo, hi, show Array.range 0 = #[] from rfl, f1, newRow]
    · obtain ⟨r, f1, f2, f3⟩ := key ((Array.range (vs.length * sz)).map (zv.cells[· % zv.cells.size]!)) (by simp)
      refine ⟨r, ?_, f2, f3⟩
      rw [← hparts, Array.toList_map] at f1
      subst hs0
      simp only [execOp, ho, Instr.buildSlice, Sem.run_bind, run_underlying (Ty.und (P := P) (t := t)), Result.andThen_ok, sizeOf, Sem.run_pure]
      simp [h24', hz, zeroValue, typeInfo, hi, hz0, f1, newRow]
  obtain ⟨r, hrun, hrs, hrr⟩ := hrun
  unfold Oper.wp
  rw [hrun, Oper.upon_value, hdst]
  have hlm : (vs.map AV.cells).length = vs.length := by simp
  obtain ⟨r1, e1, n1, v1⟩ := hr.newArr (w' := w.alloc (.cells r e)) (e := e) (sz := sz) (c := vs.length) (es := vs.map AV.cells) h0 (fun x hx => by
      obtain ⟨v, hv, rfl⟩ := List.mem_map.1 hx
      exact hck v hv) (heap_alloc_new w _) (fun k hk => heap_alloc_old w _ hk) ⟨rfl, rfl, rfl⟩ (by simp) hrs (by simp) (by
      have : vs.length * 1 ≤ vs.length * sz := Nat.mul_le_mul_left _ h0
      simp [maxLen]; omega) hrr
  rw [hlm] at v1
  exact hnext _ F (N + 1) _ _ ⟨(d, .own N 0 vs.length) :: s.fr, (N, .arr e sz (vs.map AV.cells)) :: s.σ⟩ (r1.put hd v1) e1 ⟨rfl, rfl, rfl, by simp, fun k hk _ => heap_alloc_old w _ hk⟩ (hK N n1)

/-- make of n zero elements -/
theorem hop_make {e : TypeId} [Ty P t (.slice e)] {sz by_ : Nat} {zv : Value} [Tz P e sz by_ zv] {k k' : IntKind} {m : Int} {l : Nat} (hl : aev s x = some (.int k m)) (hc : aev s y = some (.int k' m)) (hm : m = (l : Int)) (h0 : (decide (0 < sz) && (zv.cells.size == sz) && (zv.cells.toList.map ofConst).all AV.cell) = true)
    (hby : by_ * l ≤ 281474976710656) (hml : l ≤ maxLen) (hd : d < n) (hK : ∀ r, Fresh r s.σ → K ⟨(d, .own r 0 l) :: s.fr, (r, .arr e sz (List.replicate l (zv.cells.toList.map ofConst))) :: s.σ⟩) : Hop P n (.makeSlice t x y) ty (some d) s [] K := by
  simp only [Bool.and_eq_true, decide_eq_true_eq, beq_iff_eq] at h0
  obtain ⟨⟨h0, hz⟩, hcell⟩ := h0
  subst hm
  intro M F N a w o ho _ hdst hr next Q hnext
  obtain ⟨i, hi, hz0, hs0, hb0⟩ := Tz.parts P e
  have e1 := (Ev.here hl : Ev s true x _).int hr rfl
  have e2 := (Ev.here hc : Ev s true y _).int hr rfl
  have hrun := run_make_rowN (P := P) t e i zv (Ty.und (P := P) (t := t)) hi hz0 k k' l l (Nat.le_refl _) (by rw [hb0]; exact hby) (by simpa [maxLen] using hml) w
  have hex : (execOp a.eval o).run P w = .ok (.value (.slice (some ⟨w.heap.size, 0, none⟩) l l)) (w.alloc (.cells (madeCells zv.cells (l * i.size)) e)) := by
    simp only [execOp, ho, Sem.run_bind, e1, e2, hrun, Result.andThen_ok, Sem.run_pure]
  unfold Oper.wp
  rw [hex, Oper.upon_value, hdst]
  obtain ⟨r1, e1, n1, v1⟩ := hr.newArr (w' := w.alloc (.cells (madeCells zv.cells (l * i.size)) e)) (e := e) (sz := sz) (c := l) (es := List.replicate l (zv.cells.toList.map ofConst)) h0 (fun x hx => by
      obtain rfl := List.eq_of_mem_replicate hx
      exact ⟨by simp [hz], List.all_eq_true.1 hcell⟩) (heap_alloc_new w _) (fun k hk => heap_alloc_old w _ hk) ⟨rfl, rfl, rfl⟩ (by simp) (by rw [size_madeCells, hs0]) (by simp) hml (fun i' x' j b u hi' hj hu => by
      rw [List.getElem?_replicate] at hi'
      split at hi'
      · next hil =>
        obtain rfl := Option.some.inj hi'
        rw [List.getElem?_map] at hj
        obtain ⟨q, hq, rfl⟩ := Option.map_eq_some_iff.1 hj
        have hjs : j < sz := by rw [← hz]; have := (List.getElem?_eq_some_iff.1 hq).1; simpa using this
        have hlt : i' * sz + j < l * sz := flat_idx hil hjs
        have hmod : (i' * sz + j) % zv.cells.size = j := by rw [hz]; exact idx_mod hjs
        have hu' : zv.cells[j]! = u := by
          have : (madeCells zv.cells (l * i.size))[i' * sz + j]? = some (zv.cells[(i' * sz + j) % zv.cells.size]!) := by
            unfold madeCells
            rw [hs0]
            simp [hlt]
          rw [this, hmod] at hu
          exact Option.some.inj hu
        have hq' : zv.cells[j]! = q := by
          have hj2 : j < zv.cells.size := by omega
          have : zv.cells.toList[j]? = some zv.cells[j] := by simp [hj2]
          rw [this] at hq
          simp [hj2, Option.some.inj hq]
        rw [← hu', hq']
        exact ofConst_vr q
      · cases hi')
  rw [List.length_replicate] at v1
  exact hnext _ F (N + 1) _ _ ⟨(d, .own N 0 l) :: s.fr, (N, .arr e sz (List.replicate l (zv.cells.toList.map ofConst))) :: s.σ⟩ (r1.put hd v1) e1 ⟨rfl, rfl, rfl, by simp, fun k hk _ => heap_alloc_old w _ hk⟩ (hK N n1)

/-- copy into a row of the call's own; elements of one cell -/
theorem hop_copy {e tS : TypeId} [Ty P t (.slice e)] {by_ : Nat} {zv : Value} [Tz P e 1 by_ zv] {r off len m : Nat} {et : TypeId} {es ys : List (List AV)} (hb : aev s x = some (.own r off len)) (hg : sget s.σ r = some (.arr et 1 es)) (hle : off + len ≤ es.length) (hy : Src s y 1 ys) (hm : m = min ys.length len) (hd : d < n)
    (hK : K ⟨(d, .int .i64 m) :: s.fr, sset s.σ r (.arr et 1 (es.take off ++ ys.take m ++ es.drop (off + m)))⟩) : Hop P n (.call { callee := .builtin .copy, args := #[x, y], argTypes := #[t, tS] }) ty (some d) s [r] K := by
  intro M F N a w o ho _ hdst hr next Q hnext
  have hbase := hr.aev hb
  have hmem := sget_mem hg
  obtain ⟨h0, hrowsE, h3⟩ := hr.st.ent _ hmem
  obtain ⟨i, hi, hz0, hs0, hb0⟩ := Tz.parts P e
  obtain ⟨A, c, news, he, hreads, hrows, hok, hmx⟩ := hy.reads hr h0
  have hnl : news.length = ys.length := by simpa using hrows.1
  have hsz1 : (P.info? e).map (·.size) = some 1 := by rw [hi]; simp [hs0]
  generalize hu : a.eval x = u at hbase
  have fin : ∀ (w' : World) (g : Nat) (vs : Array Value) (cc : Nat), blkOf M r = some g → M r = some (.row g cc 1) → Cl w g et vs → vs.size = cc → es.length ≤ cc → cc ≤ maxLen → (∀ (i : Nat) (x : List AV) (j : Nat) (a : AV) (u : Value), es[i]? = some x → x[j]? = some a → vs[i * 1 + j]? = some u → VR M F w a u) →
      w' = w.setRow g (vs.toList.take off ++ news.take m ++ vs.toList.drop (off + m)).toArray → (execOp a.eval o).run P w = .ok (.value (goInt m)) w' → o.wp P a w next Q := by
    intro w' g vs cc hbl hMr hcl hsz hle' hmax hvr hw' hex
    subst hw'
    unfold Oper.wp
    rw [hex, Oper.upon_value, hdst]
    have hF : ¬ F g := hr.st.nof g ⟨_, hmem, hbl⟩
    have hSame : Same F w (w.setRow g (vs.toList.take off ++ news.take m ++ vs.toList.drop (off + m)).toArray) := fun b hb => setRow_other w g b _ (fun e => hF (e ▸ hb))
    have hml : m ≤ len ∧ m ≤ ys.length := by omega
    have l1 : (es.take off).length = off := by rw [List.length_take]; omega
    have l2 : (ys.take m).length = m := by rw [List.length_take]; omega
    have k1 : (vs.toList.take off).length = off := by rw [List.length_take]; simp; omega
    have k2 : (news.take m).length = m := by rw [List.length_take]; omega
    have hE : ER M F (w.setRow g (vs.toList.take off ++ news.take m ++ vs.toList.drop (off + m)).toArray) r (.arr et 1 (es.take off ++ ys.take m ++ es.drop (off + m))) := by
      refine ⟨h0, fun x hx => ?_, .inr ⟨g, cc, _, hMr, setRow_heap w g vs _ et (0, 0) hcl, ?_, ?_, hmax, fun k x j b u hk hj hu' => ?_⟩⟩
      · rcases List.mem_append.1 hx with hx | hx
        · rcases List.mem_append.1 hx with hx | hx
          · exact hrowsE x (List.mem_of_mem_take hx)
          · exact hok x (List.mem_of_mem_take hx)
        · exact hrowsE x (List.mem_of_mem_drop hx)
      · simp only [List.size_toArray, List.length_append, k1, k2, List.length_drop, Array.length_toList]; omega
      · simp only [List.length_append, l1, l2, List.length_drop]; omega
      · refine VR.mono (fun _ _ h => h) (fun _ h => h) hSame ?_
        have hrow : x.length = 1 := by
          have hx := List.mem_of_getElem? hk
          rcases List.mem_append.1 hx with hx | hx
          · rcases List.mem_append.1 hx with hx | hx
            · exact (hrowsE x (List.mem_of_mem_take hx)).1
            · exact (hok x (List.mem_of_mem_take hx)).1
          · exact (hrowsE x (List.mem_of_mem_drop hx)).1
        have hj0 : j = 0 := by have := (List.getElem?_eq_some_iff.1 hj).1; omega
        subst hj0
        simp only [List.getElem?_toArray, Nat.mul_one, Nat.add_zero, List.append_assoc] at hu' hk
        rcases Nat.lt_or_ge k off with hko | hko
        · rw [List.getElem?_append_left (by omega), List.getElem?_take_of_lt hko] at hk hu'
          exact hvr k x 0 b u hk hj (by simpa using hu')
        · rw [List.getElem?_append_right (by omega), l1] at hk
          rw [List.getElem?_append_right (by omega), k1] at hu'
          rcases Nat.lt_or_ge (k - off) m with hkm | hkm
          · rw [List.getElem?_append_left (by omega), List.getElem?_take_of_lt hkm] at hk hu'
            exact hrows.2 (k - off) x 0 b u hk hj (by simpa using hu')
          · rw [List.getElem?_append_right (by omega), l2, List.getElem?_drop] at hk
            rw [List.getElem?_append_right (by omega), k2, List.getElem?_drop] at hu'
            exact hvr _ x 0 b u hk hj (by simpa using hu')
    obtain ⟨r1, e1, o1⟩ := hr.set_ hmem hbl only_setRow hE
    exact hnext M F N _ _ ⟨(d, .int .i64 m) :: s.fr, _⟩ (r1.put hd (.int _ _)) e1 o1 hK
  cases hbase with
  | @own0 _ _ A0 =>
    -- nothing to copy into
    have hm0 : m = 0 := by omega
    subst hm0
    have hex : (execOp a.eval o).run P w = .ok (.value (goInt 0)) w := by
      simp only [execOp, ho, resolve, invoke, builtin, Sem.run_bind, Sem.run_pure, Result.andThen_ok, List.map_toArray, List.map_cons, List.map_nil, hu, he]
      rw [run_copy_none (P := P) w t tS o.type e A0 A 0 0 ys.length c (Ty.und (P := P) (t := t)) hsz1 (by simp [Nat.min])]
      rfl
    unfold Oper.wp
    rw [hex, Oper.upon_value, hdst]
    have hes : es.take off ++ ys.take 0 ++ es.drop (off + 0) = es := by simp
    rw [hes] at hK
    have hin : ∀ p ∈ sset s.σ r (Ent.arr et 1 es), p ∈ s.σ := by
      intro p hp
      rcases List.mem_cons.1 hp with rfl | hp
      · exact hmem
      · exact (mem_sdrop hp).1
    have hr2 : Rel M F N n ⟨s.fr, sset s.σ r (.arr et 1 es)⟩ a w := ⟨hr.size, hr.defers, hr.fr, hr.st.sub hin⟩
    exact hnext M F N _ _ ⟨(d, .int .i64 ((0 : Nat) : Int)) :: s.fr, _⟩ (hr2.put hd (.int _ _)) ((Ext.refl M F N w s.σ).sub hin) (Only.refl _ _) hK
  | own hM hlc hmm =>
    rcases h3 with ⟨hv', _⟩ | ⟨g, cc, vs, hM', hcl, hsz, hle', hmax, hvr⟩
    · rw [hM] at hv'; cases hv'
    · have hg' := hM'.symm.trans hM
      simp only [Option.some.injEq, Blk'.row.injEq] at hg'
      obtain ⟨q1, q2, q3⟩ := hg'
      subst q1
      subst q2
      subst q3
      have hbl : blkOf M r = some g := by simp [blkOf, hM]
      rw [Nat.mul_one] at hsz hu
      have hmlen : (news.take m).length = m := by rw [List.length_take]; omega
      by_cases hm0 : m = 0
      · have hnm : Nat.min ys.length len = 0 := by show min ys.length len = 0; omega
        refine fin w g vs cc hbl hM hcl hsz hle' hmax hvr ?_ ?_
        · subst hm0
          simp only [List.take_zero, List.append_nil, Nat.add_zero, List.take_append_drop, Array.toArray_toList]
          exact (setRow_self w g vs et (0, 0) hcl).symm
        · simp only [execOp, ho, resolve, invoke, builtin, Sem.run_bind, Sem.run_pure, Result.andThen_ok, List.map_toArray, List.map_cons, List.map_nil, hu, he]
          rw [run_copy_none (P := P) w t tS o.type e (some ⟨g, off, none⟩) A len (cc - off) ys.length c (Ty.und (P := P) (t := t)) hsz1 hnm, hm0]
          rfl
      · have hpos : 0 < ys.length := by omega
        obtain ⟨ad, rfl, _, hcell⟩ := hreads.2 hpos
        have hrun := run_copy_row (P := P) w t tS o.type e g off len (cc - off) ad ys.length c vs et (news.take m) (Ty.und (P := P) (t := t)) hsz1 hcl (by rw [hmlen]; exact hm) (fun j v hj => hcell j v (by
          have := (List.getElem?_eq_some_iff.1 hj).1
          rw [hmlen] at this
          rwa [List.getElem?_take_of_lt this] at hj)) (by rw [hmlen]; omega) (fun v hv => (hrows.one h0 hok) v (List.mem_of_mem_take hv))
        rw [hmlen] at hrun
        refine fin _ g vs cc hbl hM hcl hsz hle' hmax hvr rfl ?_
        simp only [execOp, ho, resolve, invoke, builtin, Sem.run_bind, Sem.run_pure, Result.andThen_ok, List.map_toArray, List.map_cons, List.map_nil, hu, he, hrun]
end

end Go.Proofs.Ytkjfflabapeidaa
