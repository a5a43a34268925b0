/-
  The symbolic layer: two loud operations in either order; arrays: a cell at any place, parts of them as slices. No program is named here.
-/
import Derived.Test.YtkjfflabapeidaaSymQ
namespace Go.Proofs.Ytkjfflabapeidaa
open Go.RowKit Go.ChangeShapes Go.WideShapes Go.ChangeAt Go.Deep
set_option linter.unusedSimpArgs false
set_option linter.unusedVariables false

/-- two operations that make new things only, in either order -/
theorem rd_fork {P : Program} {n : Nat} {ops : Array Oper} {listed : Array Bool} {rest : List (Nat × Bool)} {held : List (Nat × List Nat)} {s : ASt} {K : ASt → Prop} {z : Nat} {zb : Bool} (i j : Nat) (t1 t2 : List (Nat × Bool)) {dst dst' : Option Nat} {op op' : Op} {ty ty' : TypeId} {pos pos' : String} {af af' : Array Edge}
    (hr : (Region.ready .any ops listed == [i, j] && (t1.length == rest.length) && (t2.length == rest.length) && chkB ops (listed.setIfInBounds i true) t1 && chkB ops (listed.setIfInBounds j true) t2) = true)
    (hi : ops[i]? = some ⟨dst, op, ty, pos, af, none⟩) (hj : ops[j]? = some ⟨dst', op', ty', pos', af', none⟩)
    (h1 : Hop P n op ty dst s [] fun s' => RD P n ops (listed.setIfInBounds i true) t1 held s' K) (h2 : Hop P n op' ty' dst' s [] fun s' => RD P n ops (listed.setIfInBounds j true) t2 held s' K) : RD P n ops listed ((z, zb) :: rest) held s K := by
  intro hsel _ M F N a w hr0
  simp only [Bool.and_eq_true, beq_iff_eq] at hr
  obtain ⟨⟨⟨⟨hrd, hl1⟩, hl2⟩, hc1⟩, hc2⟩ := hr
  have main : ∀ {k : Nat} {t : List (Nat × Bool)} {dst : Option Nat} {op : Op} {ty : TypeId} {pos : String} {af : Array Edge}, t.length = rest.length → chkB ops (listed.setIfInBounds k true) t = true → ops[k]? = some ⟨dst, op, ty, pos, af, none⟩ →
      Hop P n op ty dst s [] (fun s' => RD P n ops (listed.setIfInBounds k true) t held s' K) → wpOp P ops (PostN n M F N w s.σ K) k (fun a' w' => (∀ g, Hd ops M F held k g → g < w.heap.size → w'.heap[g]? = w.heap[g]?) ∧ wpAnyC P .any ops (PostN n M F N w s.σ K) (Hd ops M F held) rest.length (listed.setIfInBounds k true) a' w') a w := by
    intro k t dst op ty pos af hl hc hk h
    unfold wpOp
    simp only [hk]
    rw [if_pos (by simp [Region.wanted])]
    refine .inl (h M F N a w _ rfl rfl rfl hr0 _ _ fun M' F' N' a' w' s' hr' he ho hk' => ⟨fun g hg hlt => ho.block g hlt (by simp), ?_⟩)
    rw [← hl]
    refine wpAnyC_mono (PostN.ext he) ?_ _ _ _ _ (hk' hsel hc M' F' N' a' w' hr')
    rintro j' g (hg | ⟨r, hrr, hg⟩)
    · exact .inl (he.ff g hg)
    · refine .inr ⟨r, hrr, ?_⟩
      unfold blkOf at hg ⊢
      cases hm : M r with
      | none => rw [hm] at hg; cases hg
      | some b => rw [hm] at hg; rw [he.mm _ _ hm]; exact hg
  refine ⟨fun h0 => by rw [hrd] at h0; simp at h0, fun k hk => ?_⟩
  rw [hrd] at hk
  rcases List.mem_cons.1 hk with rfl | hk
  · exact main hl1 hc1 hi h1
  · obtain rfl := List.mem_singleton.1 hk
    exact main hl2 hc2 hj h2

theorem rd_mono {P : Program} {n : Nat} {ops : Array Oper} {listed : Array Bool} {todo : List (Nat × Bool)} {held : List (Nat × List Nat)} {s : ASt} {K K' : ASt → Prop} (hK : ∀ s, K s → K' s) (h : RD P n ops listed todo held s K) : RD P n ops listed todo held s K' := by
  intro hsel hc M F N a w hr
  refine wpAnyC_mono (fun e a' w' h' => ?_) (fun _ _ h => h) _ _ _ _ (h hsel hc M F N a w hr)
  cases e <;> first | exact h'.elim | (obtain ⟨M', F', N', s', k1, k2, k3⟩ := h'; exact ⟨M', F', N', s', k1, k2, hK _ k3⟩)
theorem dly {P : Program} {n : Nat} {ops : Array Oper} {fr : Fr} {σ : Sto} {K : ASt → Prop} {op : Op} {ty : TypeId} {pos : String} {af : Array Edge} {listed : Array Bool} {todo : List (Nat × Bool)} {held : List (Nat × List Nat)} {i d j dj : Nat} {want : Bool} {v : AV} {rs : List Nat} (hi : ops[i]? = some ⟨some d, op, ty, pos, af, some (j, want)⟩) (hj : (ops[j]?).bind (·.dst) = some dj) (hb : fget fr dj = some (.bool want)) (h : Lop P op ty ⟨fr, σ⟩ true v rs) (hd : Nat.ble (d + 1) n = true)
    (hK : RD P n ops (listed.setIfInBounds i true) todo ((i, rs) :: held) ⟨(d, v) :: fr, σ⟩ K) : RD P n ops listed ((i, true) :: todo) held ⟨fr, σ⟩ K := rd_guard_yes hi hj hb h (lt_ble hd) hK
/-- a slot that holds a test's answer: two cases, the answer a literal in each -/
theorem sw_bool {P : Program} {n : Nat} {ks : List Nat} {fr : Fr} {σ : Sto} {c : Code} {Q : Exit → ASt → Prop} {b : Bool} (i : Nat) (hx : fget fr i = some (.bool b)) (ht : b = true → SW P n ks c ⟨(i, .bool true) :: fr, σ⟩ Q) (hf : b = false → SW P n ks c ⟨(i, .bool false) :: fr, σ⟩ Q) : SW P n ks c ⟨fr, σ⟩ Q := by
  have key : ∀ b', b = b' → SGo ⟨fr, σ⟩ ⟨(i, .bool b') :: fr, σ⟩ := fun b' hb => SGo.of_le (fun j x hj => by
    subst hb
    simp only [fget] at hj ⊢
    split at hj
    · next e => subst e; obtain rfl := Option.some.inj hj; exact ⟨_, hx, VLe.refl _⟩
    · exact ⟨x, hj, VLe.refl _⟩) (fun _ h => h)
  cases hb : b with
  | true => exact sw_go (key true hb) (ht hb)
  | false => exact sw_go (key false hb) (hf hb)
/-- a frame without slot t -/
inductive FDel (t : Nat) : Fr → Fr → Prop
  | nil : FDel t [] []
  | hit {x : AV} {l l' : Fr} (h : FDel t l l') : FDel t ((t, x) :: l) l'
  | miss {i : Nat} {x : AV} {l l' : Fr} (hne : (i == t) = false) (h : FDel t l l') : FDel t ((i, x) :: l) ((i, x) :: l')
theorem FDel.get {t : Nat} {l l' : Fr} (h : FDel t l l') : ∀ i x, fget l' i = some x → i ≠ t ∧ fget l i = some x := by
  induction h with
  | nil => intro i x h; simp [fget] at h
  | hit _ ih =>
    intro i x h
    obtain ⟨h1, h2⟩ := ih i x h
    exact ⟨h1, by simp only [fget]; rw [if_neg h1]; exact h2⟩
  | @miss j y l l' hne _ ih =>
    intro i x h
    simp only [fget] at h ⊢
    split at h
    · next e => subst e; exact ⟨by simpa using hne, by rw [if_pos rfl]; exact h⟩
    · next e => obtain ⟨h1, h2⟩ := ih i x h; exact ⟨h1, by rw [if_neg e]; exact h2⟩
/-- 'a or b' as a switch lays it: the second test where the first does not hold -/
theorem sw_orr {P : Program} {n : Nat} {ks : List Nat} {fr fr0 : Fr} {σ : Sto} {t : Nat} {b c : Bool} {y rest : Code} {Q Q' : Exit → ASt → Prop} (hx : fget fr t = some (.bool b)) (hd : FDel t fr fr0) (h2 : b = false → SW P n ks y ⟨fr, σ⟩ (AThen (fun s2 => SGo s2 ⟨(t, .bool c) :: fr0, σ⟩) Q')) (h : SW P n ks rest ⟨(t, .bool (b || c)) :: fr0, σ⟩ Q) :
    SW P n ks (.cond (.tmp t) .skip y) ⟨fr, σ⟩ (AThen (fun s' => SW P n ks rest s' Q) Q') := by
  have key : ∀ (fr' : Fr) (x : Bool), fget fr' t = some (.bool x) → x = (b || c) → (∀ i z, fget fr0 i = some z → fget fr' i = some z) → SGo ⟨fr', σ⟩ ⟨(t, .bool (b || c)) :: fr0, σ⟩ := fun fr' x hxx he ho => SGo.of_le (fun j z hj => by
    simp only [fget] at hj ⊢
    split at hj
    · next e => subst e; obtain rfl := Option.some.inj hj; exact ⟨_, hxx, by rw [he]; exact VLe.refl _⟩
    · next e => exact ⟨z, ho j z hj, VLe.refl _⟩) (fun _ h => h)
  refine sw_cond (b := b) hx (fun hb => ?_) (fun hb => ?_)
  · exact sw_skip (sw_go (key fr b hx (by rw [hb]; rfl) (fun i z hz => (hd.get i z hz).2)) h)
  · refine sw_mono (h2 hb) fun e s2 hs => ?_
    cases e <;> first | exact hs | skip
    refine sw_go (SGo.trans hs (key _ c (by simp [fget]) (by rw [hb]; rfl) (fun i z hz => by
      have := (hd.get i z hz).1
      simp only [fget]
      rw [if_neg this]; exact hz))) h
/-- the same, inside such a test -/
theorem sw_orq {P : Program} {n : Nat} {ks : List Nat} {fr fr0 : Fr} {σ : Sto} {t : Nat} {b c : Bool} {y : Code} {s0 : ASt} {Q' : Exit → ASt → Prop} (hx : fget fr t = some (.bool b)) (hd : FDel t fr fr0) (h2 : b = false → SW P n ks y ⟨fr, σ⟩ (AThen (fun s2 => SGo s2 ⟨(t, .bool c) :: fr0, σ⟩) Q')) (h : SGo ⟨(t, .bool (b || c)) :: fr0, σ⟩ s0) :
    SW P n ks (.cond (.tmp t) .skip y) ⟨fr, σ⟩ (AThen (fun s2 => SGo s2 s0) Q') := by
  refine sw_cond (b := b) hx (fun hb => ?_) (fun hb => ?_)
  · refine sw_skip (SGo.trans (s' := ⟨(t, .bool (b || c)) :: fr0, σ⟩) (SGo.of_le (fun j z hj => ?_) (fun _ h => h)) h)
    simp only [fget] at hj
    split at hj
    · next e => subst e; obtain rfl := Option.some.inj hj; exact ⟨_, hx, by rw [hb]; exact VLe.refl _⟩
    · next e => exact ⟨z, (hd.get j z hj).2, VLe.refl _⟩
  · refine sw_mono (h2 hb) fun e s2 hs => ?_
    cases e <;> first | exact hs | skip
    refine SGo.trans hs (SGo.trans (s' := ⟨(t, .bool (b || c)) :: fr0, σ⟩) (SGo.of_le (fun j z hj => ?_) (fun _ h => h)) h)
    simp only [fget] at hj ⊢
    split at hj
    · next e => subst e; obtain rfl := Option.some.inj hj; exact ⟨_, by rw [if_pos rfl], by rw [hb]; exact VLe.refl _⟩
    · next e => exact ⟨z, by rw [if_neg e]; exact hj, VLe.refl _⟩
/-- two ways meet, where the rest is laid by already -/
theorem sja {P : Program} {n : Nat} {ks : List Nat} {s : ASt} {Q Q' : Exit → ASt → Prop} {β : Type} {x y : Code} (st : β → ASt) (ok : β → Prop) (hx : SW P n ks x s (AThen (fun s2 => ∃ b, ok b ∧ SGo s2 (st b)) Q')) (hy : ∀ b, ok b → SW P n ks y (st b) Q) : SW P n ks x s (AThen (fun s' => SW P n ks y s' Q) Q') :=
  sw_mono hx fun e s2 h => by cases e <;> first | exact h | (obtain ⟨b, h1, h2⟩ := h; exact sw_go h2 (hy b h1))
/-- a drawn region whose ways meet in the state s0 -/
theorem sw_region_drawn_to {P : Program} {n : Nat} {ks : List Nat} {s : ASt} {Q : Exit → ASt → Prop} {id : Nat} {ops : Array Oper} {y : Code} {Q2 : Exit → ASt → Prop} (s0 : ASt) (order : List (Nat × Bool)) (hm : P.follows .mixedOrders = true) (hsel : Region.noSelect ops = true)
    (hchk : (chkB ops (Array.replicate ops.size false) order && order.length == ops.size) = true) (h : RD P n ops (Array.replicate ops.size false) order [] s (KeepK ks fun s' => SGo s' s0)) (h2 : SW P n ks y s0 Q2) : SW P n ks (.region id ops true) s (AThen (fun s' => SW P n ks y s' Q2) Q) :=
  sw_region_drawn order hm hsel hchk (rd_mono (fun _ h => sw_go h h2) h)
section
variable {P : Program} {n : Nat} {ops : Array Oper} {rest : List Oper} {fr : Fr} {σ σ' : Sto} {K : ASt → Prop} {ty t : TypeId} {pos : String} {af : Array Edge} {x y : Operand}
/-- a store of one cell into a variable, at any place -/
theorem stv {by_ : Nat} {z : Value} [Tz P t 1 by_ z] {r off : Nat} {bt : TypeId} {cs cs' : List AV} {v : AV} (h : aev ⟨fr, σ⟩ x = some (.ptr r off)) (hv : aev ⟨fr, σ⟩ y = some v) (hc : v.cell = true) (hvc : v.cells = [v]) (hs : SSet σ r (.box bt cs) r (.box bt cs') σ') (hcs : cs' = cs.set off v) (hoff : off < cs.length)
    (hK : RS P n ops rest ⟨fr, σ'⟩ K) : RS P n ops (⟨none, .store t x y, ty, pos, af, none⟩ :: rest) ⟨fr, σ⟩ K := by
  subst hcs
  refine rs_heavy (hop_store_ptr h hs.get hv (by rw [hvc]; simp [hc]) (by rw [hvc]; rfl) (by omega) ?_)
  refine rs_sub (fun p hp => ?_) hK
  have e : cs.take off ++ v.cells ++ cs.drop (off + 1) = cs.set off v := by
    rw [hvc, List.set_eq_take_append_cons_drop, if_pos hoff]
    simp
  rw [e]
  exact hs.sub p hp
/-- a store of all cells of a variable -/
theorem stw {sz by_ : Nat} {z : Value} [Tz P t sz by_ z] {r : Nat} {bt : TypeId} {cs cs' : List AV} {v : AV} (h : aev ⟨fr, σ⟩ x = some (.ptr r 0)) (hv : aev ⟨fr, σ⟩ y = some v) (hc : v.cells.all AV.cell = true) (hl : v.cells.length = sz) (hs : SSet σ r (.box bt cs) r (.box bt cs') σ') (hcs : cs' = v.cells) (hlen : cs.length = sz)
    (hK : RS P n ops rest ⟨fr, σ'⟩ K) : RS P n ops (⟨none, .store t x y, ty, pos, af, none⟩ :: rest) ⟨fr, σ⟩ K := by
  subst hcs
  refine rs_heavy (hop_store_ptr h hs.get hv hc hl (by omega) ?_)
  refine rs_sub (fun p hp => ?_) hK
  rw [List.take_zero, List.nil_append, Nat.zero_add, List.drop_of_length_le (by omega), List.append_nil]
  exact hs.sub p hp
end
section
variable {P : Program} {ty : TypeId} {s : ASt} {c : Bool} {t t' e : TypeId} {x y : Operand}
/-- an array's zero value -/
theorem lop_build0 {e : TypeId} {k : Nat} [Ty P t (.array k e)] {sz by_ sz' by' : Nat} {z z' : Value} [Tz P t sz by_ z] [Tz P e sz' by' z'] {out : List AV} (hz : z.cells.toList.map ofCell = out) : Lop P (.build t #[]) ty s c (.agg out) [] := by
  subst hz
  refine Lop.pure_ fun M F N n a w hr hc => ⟨.agg z.cells, .agg (by simp) (fun j a u hj hu => ?_), fun w' o ho _ => ?_⟩
  · rw [List.getElem?_map, Array.getElem?_toList, hu] at hj
    obtain rfl := Option.some.inj hj
    exact ofCell_vr u
  · obtain ⟨i, hi, hz0, hs0, _⟩ := Tz.parts P t
    obtain ⟨i', hi', hz0', hs0', _⟩ := Tz.parts P e
    simp [execOp, ho, Instr.build, zeroValue, typeInfo, hi, hz0, run_underlying (Ty.und (P := P) (t := t)), sizeOf, hi', Instr.fill]
/-- a part of an array's variable as a slice -/
theorem lop_slice_arr {e : TypeId} {k : Nat} [Ty P t (.array k e)] {by_ : Nat} {z : Value} [Tz P e 1 by_ z] {r : Nat} {bt : TypeId} {cs : List AV} {lo hi : Operand} {kl kh : IntKind} {ml mh : Int} {l h : Nat} (hx : Ev s c x (.ptr r 0)) (hg : sget s.σ r = some (.box bt cs)) (hk : cs.length = k) (hkm : k ≤ maxLen) (hl : Ev s c lo (.int kl ml)) (hh : Ev s c hi (.int kh mh)) (hml : c = true → ml = (l : Int)) (hmh : c = true → mh = (h : Int)) (h1 : c = true → l ≤ h ∧ h ≤ k) :
    Lop P (.slice t x (some lo) (some hi) none) ty s c (.own r l (h - l)) [] :=
  Lop.pure_ fun M F N n a w hr hc => by
    have e1 := hx.vr hr hc
    obtain ⟨h1', h2⟩ := h1 hc
    have el := hl.int hr hc
    have eh := hh.int hr hc
    rw [hml hc] at el
    rw [hmh hc] at eh
    generalize hu : a.eval x = u at e1
    obtain ⟨g, vs, hM, hcl, hsz, _⟩ := hr.st.ent _ (sget_mem hg)
    simp only at hM
    cases e1 with
    | ptr hM2 =>
      rw [hM] at hM2
      cases hM2
      have hau : P.underlying t = some (.array k e) := Ty.und
      have hal : P.arrayLen t = k := by simp [Program.arrayLen, hau]
      have hel : P.elem t = e := by simp [Program.elem, hau]
      obtain ⟨j, hi', hz, hs, _⟩ := Tz.parts P e
      have hrun : ∀ w', (Instr.sliceAt t (.pointer (some ⟨g, 0, none⟩)) (some (.int kl l)) (some (.int kh h)) none).run P w' = .ok (slicedAt ⟨g, 0, none⟩ l h k 1) w' := fun w' => by
        rw [run_sliceAt_array_lh w' t ⟨g, 0, none⟩ (by rw [hal, hel]; exact hau) kl kh l h (by omega) (by omega) (by rw [hal]; omega)]
        simp [hal, hel, sizeOf, typeInfo, hi', hs]
      refine ⟨slicedAt ⟨g, 0, none⟩ l h k 1, ?_, fun w' o' ho _ => by simp [execOp, ho, hu, el, eh, hrun]⟩
      unfold slicedAt
      by_cases hkl : k = l
      · rw [if_pos hkl, show h - l = 0 by omega, show k - l = 0 by omega]
        exact .own0
      · rw [if_neg hkl]
        have := VR.own (M := M) (F := F) (w := w) (t := r) (off := l) (len := h - l) hM (by omega) (by omega)
        rw [hk] at this
        simpa [Addr.add_lit] using this
theorem lop_bytes_box [Ty P t (.slice e)] [Ty P e (.int .u8)] [Ty P t' .string] {bs bs' : List Nat} {r off len : Nat} {bt : TypeId} (h : Ev s c x (.own r off len)) (hg : sget s.σ r = some (.box bt (bs.map fun n : Nat => AV.int .u8 n))) (hle : off + len ≤ bs.length) (hbs : (bs.drop off).take len = bs') : Lop P (.convert t t' x) ty s c (.str (strU bs')) [r] := by
  subst hbs
  refine ⟨fun q hq => ⟨_, sget_mem hg, (List.mem_singleton.1 hq).symm⟩, fun M F N n a w hr hc => ⟨_, .str _, fun w' o ho _ hsame => ?_⟩⟩
  have e1 := h.vr hr hc
  have hl : ((bs.drop off).take len).length = len := by simp; omega
  generalize hu : a.eval x = u at e1
  obtain ⟨g, vs, hM, hcl, hsz, hvr⟩ := hr.st.ent _ (sget_mem hg)
  simp only [List.length_map] at hM hsz
  cases e1 with
  | own hM2 hle' hm =>
    rw [hM] at hM2
    cases hM2
    refine run_bytes_str (e := e) ho (by rw [hu, hl]) (fun h => by cases h) (fun p hp j n hj => ?_)
    cases hp
    rw [Addr.add_lit, World.cell?_of_block (w := w) (w' := w') (hsame g (.inr ⟨r, by simp, by simp [blkOf, hM]⟩)), hcl.cell]
    have hj2 : bs[off + j]? = some n := by
      rw [List.getElem?_take] at hj
      split at hj
      · rwa [List.getElem?_drop] at hj
      · cases hj
    have hjl := (List.getElem?_eq_some_iff.1 hj2).1
    have hlt : off * 1 + j < vs.size := by omega
    have h1 := hvr (off + j) (.int .u8 n) vs[off * 1 + j] (by rw [List.getElem?_map, hj2]; rfl) (by rw [show off + j = off * 1 + j by omega]; exact Array.getElem?_eq_getElem hlt)
    rw [Array.getElem?_eq_getElem hlt]
    generalize vs[off * 1 + j] = q at h1
    cases h1
    rfl
  | own0 =>
    refine run_bytes_str (e := e) ho (by rw [hu, hl]) (fun _ => by simp) (fun p _ j n hj => by simp at hj)
end
end Go.Proofs.Ytkjfflabapeidaa
