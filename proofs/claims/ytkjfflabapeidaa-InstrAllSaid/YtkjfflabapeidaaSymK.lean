/-
  The symbolic layer: guarded calls and stores, slices against nil, rows stored whole, slices that are still empty, states against an invariant's. No program is named here.
-/
import Derived.Test.YtkjfflabapeidaaSymJ
import Derived.Lib.SliceRun
import Derived.WalkSpells
namespace Go.Proofs.Ytkjfflabapeidaa
open Go.RowKit Go.ChangeShapes Go.WideShapes Go.ChangeAt Go.Deep
set_option linter.unusedSimpArgs false
set_option linter.unusedVariables false

section
variable {P : Program} {n : Nat} {ops : Array Oper} {rest : List Oper} {s : ASt} {K : ASt → Prop} {op : Op} {ty t t' : TypeId} {pos : String} {af : Array Edge} {x y : Operand}

/-! ### guards before what is loud -/
theorem rs_heavy_yes {dst : Option Nat} {fp : List Nat} {j dj : Nat} {want : Bool} (hj : (ops[j]?).bind (·.dst) = some dj) (hb : fget s.fr dj = some (.bool want)) (h : Hop P n op ty dst s fp fun s' => RS P n ops rest s' K) : RS P n ops (⟨dst, op, ty, pos, af, some (j, want)⟩ :: rest) s K := by
  intro M F N a w hr
  have hw := wanted_of (o := ⟨dst, op, ty, pos, af, some (j, want)⟩) hr rfl hj hb
  refine wpList_step fun K' hK' => ?_
  rw [hw, if_pos (by cases want <;> rfl)]
  refine h M F N a w _ rfl rfl rfl hr K' _ fun M' F' N' a' w' s' hr' he _ hk => ?_
  exact hK' _ _ (wpList_mono (PostN.ext he) (hk M' F' N' a' w' hr'))
/-- a guarded operation that is loud: where it is wanted it goes; where it is not, its slot holds nothing -/
theorem rs_heavy_guard {d : Nat} {fp : List Nat} {j dj : Nat} {want b : Bool} (hj : (ops[j]?).bind (·.dst) = some dj) (hb : fget s.fr dj = some (.bool b)) (hd : d < n) (h : (b == want) = true → Hop P n op ty (some d) s fp fun s' => RS P n ops rest s' K)
    (h0 : (b == want) = false → RS P n ops rest (s.put d .undef) K) : RS P n ops (⟨some d, op, ty, pos, af, some (j, want)⟩ :: rest) s K := by
  intro M F N a w hr
  have hw := wanted_of (o := ⟨some d, op, ty, pos, af, some (j, want)⟩) hr rfl hj hb
  refine wpList_step fun K' hK' => ?_
  rw [hw]
  by_cases hbw : (b == want) = true
  · rw [if_pos hbw]
    refine h hbw M F N a w _ rfl rfl rfl hr K' _ fun M' F' N' a' w' s' hr' he _ hk => ?_
    exact hK' _ _ (wpList_mono (PostN.ext he) (hk M' F' N' a' w' hr'))
  · simp only [Bool.not_eq_true] at hbw
    rw [if_neg (by rw [hbw]; simp)]
    exact hK' _ _ (h0 hbw M F N _ w (hr.put hd (.undef _)))
/-- operands, under a condition, against what a contract asks, with rows lent -/
inductive ArgsIf (s : ASt) (c : Bool) (ts : List Nat) : List Operand → List AV → Prop
  | nil : ArgsIf s c ts [] []
  | cons {x : Operand} {xs : List Operand} {v y : AV} {ys : List AV} (h : Ev s c x v) (hb : Bor s.σ ts v y) (hr : ArgsIf s c ts xs ys) : ArgsIf s c ts (x :: xs) (y :: ys)
theorem ArgsIf.len {s : ASt} {c : Bool} {ts : List Nat} {xs : List Operand} {ys : List AV} (h : ArgsIf s c ts xs ys) : xs.length = ys.length := by
  induction h with
  | nil => rfl
  | cons _ _ _ ih => simp [ih]
theorem ArgsIf.vr {s : ASt} {c : Bool} {ts : List Nat} {M : Mp} {F : Nat → Prop} {N n : Nat} {a : Act} {w : World} (hr : Rel M F N n s a w) (hc : c = true) {xs : List Operand} {ys : List AV} (h : ArgsIf s c ts xs ys) : ∀ (i : Nat) (y : AV) (v : Value), ys[i]? = some y → (xs.map a.eval)[i]? = some v → VR M (FPlus M F s.σ ts) w y v := by
  induction h with
  | nil => intro i y v hi; simp at hi
  | @cons x xs v y ys hx hb _ ih =>
    intro i y' v' hi hv
    cases i with
    | zero =>
      simp only [List.getElem?_cons_zero, Option.some.injEq, List.map_cons] at hi hv
      subst hi; subst hv
      exact hb.vr hr.st (hx.vr hr hc)
    | succ i => exact ih i y' v' (by simpa using hi) (by simpa using hv)
/-- what a call that is lent rows and makes nothing does; y: its value -/
theorem lent_step {c : Bool} {f : FuncId} {xs : List Operand} {ats : Array TypeId} {args : List AV} {v : AV} (ts : List Nat) (hf : ∀ args w, (callFunc f args).run P w = .ok (.enter f args) w) (h : c = true → SCall P f args [] (fun x σ' => x = v ∧ σ' = [])) (hc : c = true)
    (hargs : ArgsIf s c ts xs args) (hno : NoF v) {M : Mp} {F : Nat → Prop} {N : Nat} {a : Act} {w : World} (hr : Rel M F N n s a w) {o : Oper} (ho : o.op = .call { callee := .value (.func f), args := xs.toArray, argTypes := ats }) {next : Act → World → Prop} {Q : Exit → Act → World → Prop}
    (hnext : ∀ (M' : Mp) (N' : Nat) (w' : World) (u : Value), Rel M' F N' n s a w' → Ext M F N w s.σ M' F N' w' s.σ → (∀ S, Only S w w') → VR M' F w' v u → next (a.put o.dst u) w') : o.wp P a w next Q := by
  have h1 : (execOp a.eval o).run P w = .ok (.enter f (xs.map a.eval).toArray) w := by
    obtain ⟨dst, op, ty', pos, after, guard⟩ := o
    dsimp only at ho
    subst ho
    rw [execOp_call_go, Array.append_empty, Array.empty_append, List.map_toArray, hf]
  unfold Oper.wp
  rw [h1]
  show Calls P f (xs.map a.eval).toArray w _
  have hs1 : SR M (FPlus M F s.σ ts) N w [] := ⟨fun p hp => (by simp at hp), fun p hp => (by simp at hp), fun g ⟨p, hp, _⟩ => (by simp at hp), fun b hb => hb.flt hr.st, hr.st.fresh⟩
  refine (h hc M (FPlus M F s.σ ts) N w (xs.map a.eval) (by simp [hargs.len]) (hargs.vr hr hc) hs1).mono ?_
  rintro e w' ⟨u, x, M', F', N', σ', rfl, he, hv, hs', rfl, rfl⟩
  have hold : ∀ g, g < w.heap.size → w'.heap[g]? = w.heap[g]? := fun g hg => he.only.block g hg (fun ⟨p, hp, _⟩ => by simp at hp)
  have hSame : Same F w w' := fun g hg => hold g (hr.st.flt g hg)
  have hMeq : ∀ p ∈ s.σ, blkOf M' p.1 = blkOf M p.1 := by
    intro p hp
    have hne := (hr.st.ent p hp).some
    unfold blkOf
    cases hm : M p.1 with
    | none => exact absurd hm hne
    | some b => rw [he.mm _ _ hm]
  have honly : ∀ S : Nat → Prop, Only S w w' := fun S => ⟨he.only.os, he.only.tape, he.only.output, he.only.size, fun k hk _ => hold k hk⟩
  refine hnext M' N' w' u ⟨hr.size, hr.defers, fun i y hi => (hr.fr i y hi).mono he.mm (fun _ h => h) hSame, ?_, ?_, ?_, fun b hb => Nat.lt_of_lt_of_le (hr.st.flt b hb) he.only.size, hs'.fresh⟩ ⟨he.mm, fun _ h => h, he.nn, honly _, ?_, fun b hb => .inl hb, fun p hp _ => ⟨p, hp, rfl⟩⟩ honly (hno _ _ _ _ _ hv)
  · intro p hp
    exact ER.mono he.mm (fun _ h => h) hSame (fun g hg => hold g ((hr.st.ent p hp).lt hg)) (hr.st.ent p hp)
  · intro p hp q hq g hpg hqg
    rw [hMeq p hp] at hpg
    rw [hMeq q hq] at hqg
    exact hr.st.inj p hp q hq g hpg hqg
  · rintro g ⟨p, hp, hg⟩ hF
    rw [hMeq p hp] at hg
    exact hr.st.nof g ⟨p, hp, hg⟩ hF
  · rintro g ⟨p, hp, hg⟩ _
    exact ⟨p, hp, by rw [← hMeq p hp]; exact hg⟩
/-- a call that makes nothing -/
theorem rs_pure {f : FuncId} {d : Nat} {xs : List Operand} {ats : Array TypeId} {args : List AV} {v : AV} (ts : List Nat) (hf : ∀ args w, (callFunc f args).run P w = .ok (.enter f args) w) (h : SCall P f args [] (fun x σ' => x = v ∧ σ' = [])) (hd : d < n)
    (hargs : ArgsIf s true ts xs args) (hno : NoF v) (hK : RS P n ops rest (s.put d v) K) : RS P n ops (⟨some d, .call { callee := .value (.func f), args := xs.toArray, argTypes := ats }, ty, pos, af, none⟩ :: rest) s K := by
  refine rs_heavy (fp := []) ?_
  intro M F N a w o ho _ hdst hr next Q hnext
  refine lent_step ts hf (fun _ => h) rfl hargs hno hr ho fun M' N' w' u hr' he ho' hv => ?_
  rw [hdst]
  exact hnext M' F N' _ w' (s.put d v) (hr'.put hd hv) he (ho' _) hK
theorem hop_pure {f : FuncId} {d : Nat} {xs : List Operand} {ats : Array TypeId} {args : List AV} {v : AV} (ts : List Nat) (hf : ∀ args w, (callFunc f args).run P w = .ok (.enter f args) w) (h : SCall P f args [] (fun x σ' => x = v ∧ σ' = [])) (hd : d < n)
    (hargs : ArgsIf s true ts xs args) (hno : NoF v) (hK : K (s.put d v)) : Hop P n (.call { callee := .value (.func f), args := xs.toArray, argTypes := ats }) ty (some d) s [] K := by
  intro M F N a w o ho _ hdst hr next Q hnext
  refine lent_step ts hf (fun _ => h) rfl hargs hno hr ho fun M' N' w' u hr' he ho' hv => ?_
  rw [hdst]
  exact hnext M' F N' _ w' (s.put d v) (hr'.put hd hv) he (ho' _) hK
/-- a guarded call that makes nothing -/
theorem rs_pure_guard {f : FuncId} {d j dj : Nat} {want b : Bool} {xs : List Operand} {ats : Array TypeId} {args : List AV} {v : AV} (ts : List Nat) (hj : (ops[j]?).bind (·.dst) = some dj) (hb : fget s.fr dj = some (.bool b)) (hf : ∀ args w, (callFunc f args).run P w = .ok (.enter f args) w)
    (h : (b == want) = true → SCall P f args [] (fun x σ' => x = v ∧ σ' = [])) (hd : d < n) (hargs : ArgsIf s (b == want) ts xs args) (hno : NoF v) (hK : RS P n ops rest (s.put d (.when (b == want) v)) K) :
    RS P n ops (⟨some d, .call { callee := .value (.func f), args := xs.toArray, argTypes := ats }, ty, pos, af, some (j, want)⟩ :: rest) s K := by
  intro M F N a w hr
  have hw := wanted_of (o := ⟨some d, .call { callee := .value (.func f), args := xs.toArray, argTypes := ats }, ty, pos, af, some (j, want)⟩) hr rfl hj hb
  refine wpList_step fun K' hK' => ?_
  rw [hw]
  by_cases hbw : (b == want) = true
  · rw [if_pos hbw]
    refine lent_step ts hf h hbw hargs hno hr rfl fun M' N' w' u hr' he _ hv => ?_
    exact hK' _ _ (wpList_mono (PostN.ext he) (hK M' F N' _ w' (hr'.put hd (.when (fun _ => hv) (fun h => by rw [hbw] at h; cases h)))))
  · simp only [Bool.not_eq_true] at hbw
    rw [if_neg (by rw [hbw]; simp)]
    exact hK' _ _ (hK M F N _ w (hr.put hd (.when (fun h => by rw [hbw] at h; cases h) (fun _ => rfl))))

/-! ### slices against nil -/
theorem run_sl_nil {e : TypeId} [Ty P t (.slice e)] {o : Oper} {a : Act} {w : World} (ho : o.op = .binOp .eql t x y t') {A : Option Addr} {l c : Nat} (hx : a.eval x = .slice A l c) (hy : a.eval y = .slice none 0 0) : (execOp a.eval o).run P w = .ok (.value (.bool A.isNone)) w := by
  refine run_binOp ho ?_ ?_
  · rw [hx]; simp [eqGuard]
  · rw [hx, hy]; exact Lib.run_eql_slice_nil w t _ A l c 0 0 (Ty.und (P := P) (t := t))
theorem rs_nil_eq {e : TypeId} [Ty P t (.slice e)] {d sz : Nat} {es : List (List AV)} {k : Rk} (h : aev s x = some (.ro sz es k)) (hy : y = .const (.slice none 0 0)) (hd : d < n) (hK : ∀ b, (b = true → es = []) → (k = .nil → b = true) → RS P n ops rest (s.put d (.bool b)) K) :
    RS P n ops (⟨some d, .binOp .eql t x y t', ty, pos, af, none⟩ :: rest) s K := by
  subst hy
  intro M F N a w hr
  refine wpList_plain rfl fun K' hK' => ?_
  have hv := hr.aev h
  generalize hu : a.eval x = u at hv
  unfold Oper.wp
  cases hv with
  | @ro _ _ b o _ cap us hb hs hc hrr hle hm hf hn =>
    rw [run_sl_nil (P := P) (t := t) (o := ⟨some d, .binOp .eql t x (.const (.slice none 0 0)) t', ty, pos, af, none⟩) rfl hu rfl]
    exact hK' _ _ (hK false (fun h => by cases h) (fun h => absurd h hn) M F N _ w (hr.put hd (.bool _)))
  | @ro0 _ _ A cap hm hA hf hn =>
    rw [run_sl_nil (P := P) (t := t) (o := ⟨some d, .binOp .eql t x (.const (.slice none 0 0)) t', ty, pos, af, none⟩) rfl hu rfl]
    exact hK' _ _ (hK A.isNone (fun _ => rfl) (fun h => by rw [hn h]; rfl) M F N _ w (hr.put hd (.bool _)))
theorem rs_nil_eq_own {e : TypeId} [Ty P t (.slice e)] {d r off len : Nat} (h : aev s x = some (.own r off len)) (hy : y = .const (.slice none 0 0)) (hd : d < n) (hK : ∀ b, (b = true → len = 0) → RS P n ops rest (s.put d (.bool b)) K) :
    RS P n ops (⟨some d, .binOp .eql t x y t', ty, pos, af, none⟩ :: rest) s K := by
  subst hy
  intro M F N a w hr
  refine wpList_plain rfl fun K' hK' => ?_
  have hv := hr.aev h
  generalize hu : a.eval x = u at hv
  unfold Oper.wp
  cases hv with
  | own hM hle hm =>
    rw [run_sl_nil (P := P) (t := t) (o := ⟨some d, .binOp .eql t x (.const (.slice none 0 0)) t', ty, pos, af, none⟩) rfl hu rfl]
    exact hK' _ _ (hK false (fun h => by cases h) M F N _ w (hr.put hd (.bool _)))
  | @own0 _ _ A =>
    rw [run_sl_nil (P := P) (t := t) (o := ⟨some d, .binOp .eql t x (.const (.slice none 0 0)) t', ty, pos, af, none⟩) rfl hu rfl]
    exact hK' _ _ (hK A.isNone (fun _ => rfl) M F N _ w (hr.put hd (.bool _)))

/-! ### a store of several cells into a row of the call's own -/
theorem hop_store_part {sz1 by_ : Nat} {z : Value} [Tz P t sz1 by_ z] {r i off : Nat} {et : TypeId} {sz : Nat} {es : List (List AV)} {e : List AV} {v : AV} (h : aev s x = some (.ow r i off)) (hg : sget s.σ r = some (.arr et sz es)) (he : es[i]? = some e) (ho' : off + sz1 ≤ e.length) (hv : aev s y = some v) (hcb : v.cells.all AV.cell = true) (hl : v.cells.length = sz1)
    (hK : K ⟨s.fr, sset s.σ r (.arr et sz (es.set i (e.take off ++ v.cells ++ e.drop (off + sz1))))⟩) : Hop P n (.store t x y) ty none s [r] K := by
  have hc : ∀ a ∈ v.cells, a.cell = true := List.all_eq_true.1 hcb
  intro M F N a w o ho _ hdst hr next Q hnext
  have hx := hr.aev h
  generalize hu : a.eval x = u at hx
  have hmem := sget_mem hg
  obtain ⟨h0, hrows, h3⟩ := hr.st.ent _ hmem
  obtain ⟨c1, c2, c3⟩ := (hr.aev hv).cells hc
  have hel := hrows e (List.mem_of_getElem? he)
  cases hx with
  | ow hM =>
    rcases h3 with ⟨hv', _⟩ | ⟨g, cc, vs, hM', hcl, hsz, hle, hmax, hvr⟩
    · rw [hM] at hv'; cases hv'
    · have hg' := hM'.symm.trans hM
      simp only [Option.some.injEq, Blk'.row.injEq] at hg'
      obtain ⟨q1, q2, q3⟩ := hg'
      subst q1
      subst q2
      subst q3
      have hi : i < es.length := (List.getElem?_eq_some_iff.1 he).1
      have hfit : i * sz + (off + sz1) ≤ vs.size := by
        rw [hsz]
        calc i * sz + (off + sz1) ≤ i * sz + sz := by omega
          _ = (i + 1) * sz := by rw [Nat.succ_mul]
          _ ≤ cc * sz := Nat.mul_le_mul_right _ (by omega)
      have hrun := run_storeAt (P := P) (w := w) (t := t) (g := g) (o := i * sz + off) (et := et) (cur := vs) (v := a.eval y) (by rw [c1, hl]) hcl (by omega) c3
      have hex : (execOp a.eval o).run P w = .ok .skip (w.setRow g (vs.toList.take (i * sz + off) ++ (a.eval y).cells.toList ++ vs.toList.drop (i * sz + off + sz1)).toArray) := by
        simp [execOp, ho, hu] at hrun ⊢
        simp [hrun]
      unfold Oper.wp
      rw [hex, Oper.upon_skip, hdst]
      have hbl : blkOf M r = some g := by simp [blkOf, hM]
      have hF : ¬ F g := hr.st.nof g ⟨_, hmem, hbl⟩
      have hSame : Same F w (w.setRow g (vs.toList.take (i * sz + off) ++ (a.eval y).cells.toList ++ vs.toList.drop (i * sz + off + sz1)).toArray) := fun b hb => setRow_other w g b _ (fun e => hF (e ▸ hb))
      have k1 : (vs.toList.take (i * sz + off)).length = i * sz + off := by rw [List.length_take]; simp; omega
      have k2 : (a.eval y).cells.toList.length = sz1 := by simp [c1, hl]
      have l1 : (e.take off).length = off := by rw [List.length_take]; omega
      have hE : ER M F (w.setRow g (vs.toList.take (i * sz + off) ++ (a.eval y).cells.toList ++ vs.toList.drop (i * sz + off + sz1)).toArray) r (.arr et sz (es.set i (e.take off ++ v.cells ++ e.drop (off + sz1)))) := by
        refine ⟨h0, ?_, .inr ⟨g, cc, _, hM', setRow_heap w g vs _ et (0, 0) hcl, ?_, by simpa using hle, hmax, fun k xs j b u hk hj hu' => ?_⟩⟩
        · intro xs hxs
          rcases List.mem_or_eq_of_mem_set hxs with hxs | rfl
          · exact hrows xs hxs
          · refine ⟨by simp only [List.length_append, l1, hl, List.length_drop]; omega, fun b hb => ?_⟩
            rcases List.mem_append.1 hb with hb | hb
            · rcases List.mem_append.1 hb with hb | hb
              · exact hel.2 b (List.mem_of_mem_take hb)
              · exact hc b hb
            · exact hel.2 b (List.mem_of_mem_drop hb)
        · simp only [List.size_toArray, List.length_append, k1, k2, List.length_drop, Array.length_toList]; omega
        · refine VR.mono (fun _ _ h => h) (fun _ h => h) hSame ?_
          simp only [List.getElem?_toArray, List.append_assoc] at hu'
          by_cases hki : i = k
          · subst hki
            rw [List.getElem?_set_self hi] at hk
            obtain rfl := Option.some.inj hk
            rw [List.append_assoc] at hj
            rcases Nat.lt_or_ge j off with hjo | hjo
            · rw [List.getElem?_append_left (by omega), List.getElem?_take_of_lt hjo] at hj
              rw [List.getElem?_append_left (by omega), List.getElem?_take_of_lt (by omega)] at hu'
              exact hvr i e j b u he hj (by simpa using hu')
            · rw [List.getElem?_append_right (by omega), l1] at hj
              rw [List.getElem?_append_right (by omega), k1, show i * sz + j - (i * sz + off) = j - off by omega] at hu'
              rcases Nat.lt_or_ge (j - off) sz1 with hjs | hjs
              · rw [List.getElem?_append_left (by omega)] at hj
                rw [List.getElem?_append_left (by omega)] at hu'
                exact c2 _ b u hj (by simpa using hu')
              · rw [List.getElem?_append_right (by omega), hl, List.getElem?_drop, show off + sz1 + (j - off - sz1) = j by omega] at hj
                rw [List.getElem?_append_right (by omega), k2, List.getElem?_drop, show i * sz + off + sz1 + (j - off - sz1) = i * sz + j by omega] at hu'
                exact hvr i e j b u he hj (by simpa using hu')
          · rw [List.getElem?_set_ne hki] at hk
            have hjl : j < sz := by rw [← (hrows xs (List.mem_of_getElem? hk)).1]; exact (List.getElem?_eq_some_iff.1 hj).1
            refine hvr k xs j b u hk hj ?_
            rcases Nat.lt_or_ge k i with hlt | hge
            · have : (k + 1) * sz ≤ i * sz := Nat.mul_le_mul_right _ (by omega)
              rw [Nat.succ_mul] at this
              rw [List.getElem?_append_left (by omega), List.getElem?_take_of_lt (by omega)] at hu'
              simpa using hu'
            · have : (i + 1) * sz ≤ k * sz := Nat.mul_le_mul_right _ (by omega)
              rw [Nat.succ_mul] at this
              rw [List.getElem?_append_right (by omega), k1, List.getElem?_append_right (by omega), k2, List.getElem?_drop, show i * sz + off + sz1 + (k * sz + j - (i * sz + off) - sz1) = k * sz + j by omega] at hu'
              simpa using hu'
      obtain ⟨r1, e1, o1⟩ := hr.set_ hmem hbl only_setRow hE
      exact hnext M F N _ _ _ r1 e1 o1 hK

/-! ### a slice that is still empty, as a row that has no block yet -/
theorem sgo_virt_of {s : ASt} {i z : Nat} {k : Rk} (e : TypeId) {sz : Nat} (h0 : 0 < sz) (hx : fget s.fr i = some (.ro z [] k)) (hk : k ≠ .any) {M : Mp} {F : Nat → Prop} {N n : Nat} {a : Act} {w : World} (hr : Rel M F N n s a w) :
    Rel (addM M N .virt) F (N + 1) n ⟨(i, .own N 0 0) :: s.fr, (N, .arr e sz []) :: s.σ⟩ a w ∧ Ext M F N w s.σ (addM M N .virt) F (N + 1) w ((N, .arr e sz []) :: s.σ) ∧ Fresh N s.σ := by
  have hE : ER (addM M N .virt) F w N (.arr e sz []) := ⟨h0, fun x hx => by simp at hx, .inl ⟨addM_new _, rfl⟩⟩
  obtain ⟨r1, e1, n1⟩ := hr.new_ (w' := w) .virt (.arr e sz []) (fun _ _ => rfl) ⟨rfl, rfl, rfl⟩ (Nat.le_refl _) (fun g hg => by simp [blkOf, addM_new] at hg) hE
  refine ⟨⟨r1.size, r1.defers, fun j y hj => ?_, r1.st⟩, e1, n1⟩
  simp only [fget] at hj
  split at hj
  · next e => 
    subst e
    obtain rfl := Option.some.inj hj
    have hv := r1.fr j _ hx
    generalize a.tmps.getD j Go.undef = u at hv
    cases hv with
    | @ro _ _ b o _ cap us hb hs hc hrr hle hm hf hn =>
      cases k with
      | nil => exact absurd rfl hn
      | full => have := hf rfl; simp at this; subst this; exact .own0
      | any => exact absurd rfl hk
    | ro0 hm hA hf hn =>
      cases k with
      | nil => obtain rfl := hn rfl; obtain rfl := hA rfl; exact .own0
      | full => obtain rfl := hf rfl; exact .own0
      | any => exact absurd rfl hk
  · exact r1.fr j y hj
theorem sw_virt {ks : List Nat} {c : Code} {Q : Exit → ASt → Prop} (i : Nat) (e : TypeId) (sz : Nat) (h0 : 0 < sz) {z : Nat} {k : Rk} (hx : fget s.fr i = some (.ro z [] k)) (hk : k ≠ .any) (h : ∀ r, Fresh r s.σ → SW P n ks c ⟨(i, .own r 0 0) :: s.fr, (r, .arr e sz []) :: s.σ⟩ Q) : SW P n ks c s Q := by
  intro M F N a w hr
  obtain ⟨r1, e1, n1⟩ := sgo_virt_of e h0 hx hk hr
  refine wp_mono (h N n1 _ F _ a w r1) ?_
  rintro e' a' w' ⟨M', F', N', s2, h1, h2, h3⟩
  exact ⟨M', F', N', s2, h1, e1.trans h2, h3⟩
end

/-! ### states against an invariant's -/
inductive StLe (σ : Sto) : Sto → Prop
  | nil : StLe σ []
  | cons {r : Nat} {x y : Ent} {l : Sto} (h : (r, x) ∈ σ) (he : x = y) (t : StLe σ l) : StLe σ ((r, y) :: l)
theorem StLe.mem {σ l : Sto} (h : StLe σ l) : ∀ p ∈ l, p ∈ σ := by
  induction h with
  | nil => intro p hp; simp at hp
  | cons h he _ ih =>
    intro p hp
    rcases List.mem_cons.1 hp with rfl | hp
    · exact he ▸ h
    · exact ih p hp
theorem sgo_st {s : ASt} {fr' : Fr} {σ' : Sto} (h : FrLe s.fr fr') (hσ : StLe s.σ σ') : SGo s ⟨fr', σ'⟩ := SGo.of_le h.get hσ.mem
/-- the store as it reads -/
theorem rs_sto {P : Program} {n : Nat} {ops : Array Oper} {rest : List Oper} {fr : Fr} {σ σ' : Sto} {K : ASt → Prop} (h : σ = σ') (hK : RS P n ops rest ⟨fr, σ'⟩ K) : RS P n ops rest ⟨fr, σ⟩ K := h ▸ hK
theorem rd_sto {P : Program} {n : Nat} {ops : Array Oper} {listed : Array Bool} {todo : List (Nat × Bool)} {held : List (Nat × List Nat)} {fr : Fr} {σ σ' : Sto} {K : ASt → Prop} (h : σ = σ') (hK : RD P n ops listed todo held ⟨fr, σ'⟩ K) : RD P n ops listed todo held ⟨fr, σ⟩ K := h ▸ hK

/-! ### loud operations in a drawn region -/
/-- what has been read so far is waited for, or is not what operation j turns -/
inductive HB (ops : Array Oper) (j : Nat) (names fp : List Nat) : List (Nat × List Nat) → Prop
  | nil : HB ops j names fp []
  | none {i : Nat} {l : List (Nat × List Nat)} (h : HB ops j names fp l) : HB ops j names fp ((i, []) :: l)
  | waits {i : Nat} {rs : List Nat} {l : List (Nat × List Nat)} (hw : (((ops[j]?).map fun o => o.after.any fun e => Region.binds .any e && e.on == i).getD false) = true) (h : HB ops j names fp l) : HB ops j names fp ((i, rs) :: l)
  | ok {i : Nat} {rs : List Nat} {l : List (Nat × List Nat)} (h1 : ∀ r ∈ rs, r ∈ names ∧ r ∉ fp) (h : HB ops j names fp l) : HB ops j names fp ((i, rs) :: l)
theorem HB.held {ops : Array Oper} {j : Nat} {names fp : List Nat} {held : List (Nat × List Nat)} (h : HB ops j names fp held) : ∀ r ∈ heldBy ops held j, r ∈ names ∧ r ∉ fp := by
  have cons : ∀ {i : Nat} {rs : List Nat} {l : List (Nat × List Nat)}, (∀ r ∈ heldBy ops l j, r ∈ names ∧ r ∉ fp) → ((((ops[j]?).map fun o => o.after.any fun e => Region.binds .any e && e.on == i).getD false) = true ∨ ∀ r ∈ rs, r ∈ names ∧ r ∉ fp) → ∀ r ∈ heldBy ops ((i, rs) :: l) j, r ∈ names ∧ r ∉ fp := by
    intro i rs l h1 h2 r hr
    simp only [heldBy, List.flatMap_cons] at hr
    rcases List.mem_append.1 hr with hr | hr
    · split at hr
      · simp at hr
      · next hn => exact h2.elim (fun h => absurd h hn) (fun h => h r hr)
    · exact h1 r hr
  induction h with
  | nil => intro r hr; simp [heldBy] at hr
  | none _ ih => exact cons ih (.inr (by simp))
  | waits hw _ ih => exact cons ih (.inl hw)
  | ok h1 _ ih => exact cons ih (.inr h1)
section
variable {P : Program} {n : Nat} {ops : Array Oper} {listed : Array Bool} {todo : List (Nat × Bool)} {held : List (Nat × List Nat)} {s : ASt} {K : ASt → Prop} {op : Op} {ty : TypeId} {pos : String} {af : Array Edge} {i : Nat}
theorem rd_new {dst : Option Nat} (hi : ops[i]? = some ⟨dst, op, ty, pos, af, none⟩) (h : Hop P n op ty dst s [] fun s' => RD P n ops (listed.setIfInBounds i true) todo held s' K) : RD P n ops listed ((i, false) :: todo) held s K := rd_heavy hi h (.inl rfl)
theorem rd_turn {dst : Option Nat} {fp : List Nat} (hi : ops[i]? = some ⟨dst, op, ty, pos, af, none⟩) (h : Hop P n op ty dst s fp fun s' => RD P n ops (listed.setIfInBounds i true) todo held s' K)
    (hf : ∀ r ∈ fp, r ∈ s.σ.map (·.1)) (hb : HB ops i (s.σ.map (·.1)) fp held) : RD P n ops listed ((i, false) :: todo) held s K := rd_heavy hi h (.inr ⟨hf, hb.held⟩)
/-- a guarded call that makes nothing -/
theorem rd_pure_guard {f : FuncId} {d j dj : Nat} {want b : Bool} {xs : List Operand} {ats : Array TypeId} {args : List AV} {v : AV} (ts : List Nat) (hi : ops[i]? = some ⟨some d, .call { callee := .value (.func f), args := xs.toArray, argTypes := ats }, ty, pos, af, some (j, want)⟩) (hj : (ops[j]?).bind (·.dst) = some dj) (hb : fget s.fr dj = some (.bool b)) (hf : ∀ args w, (callFunc f args).run P w = .ok (.enter f args) w)
    (h : (b == want) = true → SCall P f args [] (fun x σ' => x = v ∧ σ' = [])) (hd : d < n) (hargs : ArgsIf s (b == want) ts xs args) (hno : NoF v) (hK : RD P n ops (listed.setIfInBounds i true) todo held (s.put d (.when (b == want) v)) K) :
    RD P n ops listed ((i, false) :: todo) held s K := by
  intro hsel hc M F N a w hr
  obtain ⟨hc1, hc3⟩ := chkB_cons hi hc
  simp only [Bool.false_eq_true, if_false, beq_iff_eq] at hc1
  refine ⟨fun h0 => by rw [hc1] at h0; simp at h0, fun k hk => ?_⟩
  rw [hc1] at hk
  obtain rfl : k = i := by simpa using hk
  unfold wpOp
  simp only [hi]
  have hw := wanted_of (o := ⟨some d, .call { callee := .value (.func f), args := xs.toArray, argTypes := ats }, ty, pos, af, some (j, want)⟩) hr rfl hj hb
  rw [hw]
  have fin : ∀ (M' : Mp) (N' : Nat) (w' : World) (u : Value), (∀ r b', M r = some b' → M' r = some b') → Rel M' F N' n (s.put d (.when (b == want) v)) (a.put (some d) u) w' → Ext M F N w s.σ M' F N' w' s.σ → (∀ S, Only S w w') →
      (∀ g, Hd ops M F held k g → g < w.heap.size → w'.heap[g]? = w.heap[g]?) ∧ wpAnyC P .any ops (PostN n M F N w s.σ K) (Hd ops M F held) todo.length (listed.setIfInBounds k true) (a.put (some d) u) w' := by
    intro M' N' w' u hmm hr' he ho
    refine ⟨fun g _ hlt => (ho fun _ => False).block g hlt id, wpAnyC_mono (PostN.ext he) ?_ _ _ _ _ (hK hsel hc3 M' F N' _ w' hr')⟩
    rintro j' g (hg | ⟨r, hr, hg⟩)
    · exact .inl hg
    · refine .inr ⟨r, hr, ?_⟩
      unfold blkOf at hg ⊢
      cases hm : M r with
      | none => rw [hm] at hg; cases hg
      | some b' => rw [hm] at hg; rw [hmm _ _ hm]; exact hg
  by_cases hbw : (b == want) = true
  · rw [if_pos hbw]
    refine .inl (lent_step ts hf h hbw hargs hno hr rfl fun M' N' w' u hr' he ho hv => ?_)
    exact fin M' N' w' u he.mm (hr'.put hd (.when (fun _ => hv) (fun h => by rw [hbw] at h; cases h))) he ho
  · simp only [Bool.not_eq_true] at hbw
    rw [if_neg (by rw [hbw]; simp)]
    have := fin M N w _ (fun _ _ h => h) (hr.put hd (.when (fun h => by rw [hbw] at h; cases h) (fun _ => rfl))) (Ext.refl _ _ _ _ _) (fun _ => Only.refl _ _)
    simpa using this
end

/-! ### small shapes that walks use -/
theorem take_len' {α : Type} {l : List α} : l.take l.length = l := List.take_length
theorem take_map_len {α β : Type} {l : List α} {f : α → β} : (l.map f).take l.length = l.map f := by rw [List.take_of_length_le]; simp
section
variable {P : Program} {n : Nat} {s : ASt} {K : ASt → Prop} {ty t t' : TypeId} {d : Nat} {x y : Operand} {c : Bool}
theorem hop_buildSlice' {e : TypeId} [Ty P t (.slice e)] {sz by_ : Nat} {zv : Value} [Tz P e sz by_ zv] {len : Nat} {parts : Array (Nat × Operand)} {vs : List AV} (hp : parts.toList = enumF 0 (parts.toList.map (·.2))) (hv : AEvs s (parts.toList.map (·.2)) vs) (hlen : (len == vs.length) = true) (h0 : (decide (0 < sz) && decide (len * sz ≤ 16777216)) = true)
    (hc : (vs.all fun v => v.cells.length == sz && v.cells.all AV.cell) = true) (hd : d < n) (hK : ∀ r, Fresh r s.σ → K ⟨(d, .own r 0 len) :: s.fr, (r, .arr e sz (vs.map AV.cells)) :: s.σ⟩) : Hop P n (.buildSlice t len parts) ty (some d) s [] K :=
  hop_buildSlice hp hv hlen h0 hc hd hK
theorem wrap_u64_of {m : Int} (h1 : 0 ≤ m) (h2 : m ≤ 18446744073709551615) : IntKind.u64.wrap m = m := by rw [IntKind.wrap_u64]; omega
theorem wrap_u32_of {m : Int} (h1 : 0 ≤ m) (h2 : m ≤ 4294967295) : IntKind.u32.wrap m = m := by rw [IntKind.wrap_u32]; omega
theorem wrap_u8_of {m : Int} (h1 : 0 ≤ m) (h2 : m ≤ 255) : IntKind.u8.wrap m = m := by rw [IntKind.wrap_u8]; omega
theorem wrap_i32_of {m : Int} (h1 : -2147483648 ≤ m) (h2 : m ≤ 2147483647) : IntKind.i32.wrap m = m := by rw [IntKind.wrap_i32]; omega
theorem lop_conv_in {k k' : IntKind} {m : Int} [Ty P t (.int k)] [Ty P t' (.int k')] (h : Ev s c x (.int k m)) (hw : k'.wrap m = m) : Lop P (.convert t t' x) ty s c (.int k' m) [] := by
  have := lop_conv (P := P) (ty := ty) (t := t) (t' := t') h
  rwa [hw] at this
theorem lop_index_own0 {e : TypeId} [Ty P t (.slice e)] {sz by_ : Nat} {z : Value} [Tz P e sz by_ z] {r len : Nat} {et : TypeId} {es : List (List AV)} {kk : IntKind} {m : Int} (h : Ev s c x (.own r 0 len)) (hg : sget s.σ r = some (.arr et sz es)) (h' : Ev s c y (.int kk m))
    (hm : c = true → 0 ≤ m ∧ m < len) : Lop P (.indexAddr t x y) ty s c (.ow r m.toNat 0) [] := by
  have := lop_index_own (P := P) (ty := ty) (t := t) h hg h' hm
  rwa [Nat.zero_add] at this
theorem lop_load_ow_agg {d : TypeDesc} [Ty P t d] {sz by_ : Nat} {z : Value} [Tz P t sz by_ z] {r i off : Nat} {et : TypeId} {sz' : Nat} {es : List (List AV)} {e : List AV} (h : Ev s c x (.ow r i off)) (hd : aggD d = true) (hg : sget s.σ r = some (.arr et sz' es)) (he : c = true → es[i]? = some e) (hv : c = true → off + sz ≤ e.length) :
    Lop P (.load t x) ty s c (.agg ((e.drop off).take sz)) [r] := by
  refine ⟨fun q hq => ⟨_, sget_mem hg, (List.mem_singleton.1 hq).symm⟩, ?_⟩
  intro M F N n a w hr hc
  have e1 := h.vr hr hc
  have he := he hc
  have hv := hv hc
  generalize hu : a.eval x = u at e1
  obtain ⟨h0, hrows, h3⟩ := hr.st.ent _ (sget_mem hg)
  have hel := hrows e (List.mem_of_getElem? he)
  cases e1 with
  | ow hM =>
    rcases h3 with ⟨hv', _⟩ | ⟨g, cc, vs, hM', hcl, hsz, hle, hmax, hvr⟩
    · rw [hM] at hv'; cases hv'
    · have hg' := hM'.symm.trans hM
      simp only [Option.some.injEq, Blk'.row.injEq] at hg'
      obtain ⟨q1, q2, q3⟩ := hg'
      subst q1
      subst q2
      subst q3
      have hi : i < es.length := (List.getElem?_eq_some_iff.1 he).1
      have hfit : i * sz' + sz' ≤ vs.size := by
        rw [hsz]
        calc i * sz' + sz' = (i + 1) * sz' := by rw [Nat.succ_mul]
          _ ≤ cc * sz' := Nat.mul_le_mul_right _ (by omega)
      refine ⟨.agg ((vs.toList.drop (i * sz' + off)).take sz).toArray, .agg (by simp; omega) (fun j b u hj hu => ?_), fun w' o ho _ hw => ?_⟩
      · have hjl : j < sz := by
          have := (List.getElem?_eq_some_iff.1 hj).1; simp at this; omega
        rw [List.getElem?_take_of_lt hjl, List.getElem?_drop] at hj
        simp only [List.getElem?_toArray] at hu
        rw [List.getElem?_take_of_lt hjl, List.getElem?_drop, Nat.add_assoc] at hu
        exact hvr i e _ b u he hj (by simpa using hu)
      · have hcl' := hcl.same (hw _ (.inr ⟨r, by simp, by simp [blkOf, hM]⟩))
        have := run_loadAt_agg (P := P) (w := w') (t := t) hd (p := ⟨g, i * sz' + off, none⟩) (cs := (vs.toList.drop (i * sz' + off)).take sz) (by simp; omega) (fun j v hj => by
          have hjl : j < sz := by
            have := (List.getElem?_eq_some_iff.1 hj).1; simp at this; omega
          rw [List.getElem?_take_of_lt hjl, List.getElem?_drop] at hj
          rw [Addr.add_lit, hcl'.cell]
          simpa using hj)
        simp [execOp, ho, hu, this]
end

end Go.Proofs.Ytkjfflabapeidaa
