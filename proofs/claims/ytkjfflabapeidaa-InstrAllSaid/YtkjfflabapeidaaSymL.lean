/-
  The symbolic layer: short steps, one an operation, over a state that is written out. A program of ours prints walks of them. No program is named here.
-/
import Derived.Test.YtkjfflabapeidaaSymK
namespace Go.Proofs.Ytkjfflabapeidaa
open Go.RowKit Go.ChangeShapes Go.WideShapes Go.ChangeAt Go.Deep
set_option linter.unusedSimpArgs false
set_option linter.unusedVariables false

/-! ### relations that a walk solves row by row -/
/-- cells written over, from a place on -/
inductive Put : List AV → Nat → List AV → List AV → Prop
  | done {l : List AV} : Put l 0 [] l
  | put {a v : AV} {l vs l' : List AV} (h : Put l 0 vs l') : Put (a :: l) 0 (v :: vs) (v :: l')
  | skip {a : AV} {k : Nat} {l vs l' : List AV} (h : Put l k vs l') : Put (a :: l) (k + 1) vs (a :: l')
theorem Put.eq {cs : List AV} {k : Nat} {vs out : List AV} (h : Put cs k vs out) : k + vs.length ≤ cs.length ∧ out = cs.take k ++ vs ++ cs.drop (k + vs.length) := by
  induction h with
  | done => simp
  | put _ ih =>
    obtain ⟨h1, h2⟩ := ih
    refine ⟨by simp at h1 ⊢; omega, ?_⟩
    simp at h2 ⊢
    exact h2
  | @skip a k l vs l' _ ih =>
    obtain ⟨h1, h2⟩ := ih
    refine ⟨by simp at h1 ⊢; omega, ?_⟩
    rw [show k + 1 + vs.length = (k + vs.length) + 1 by omega]
    simp at h2 ⊢
    exact h2
/-- a struct's fields laid one by one -/
inductive Fill (pl : List (Nat × Nat)) : List AV → List (Nat × AV) → List AV → Prop
  | nil {cs : List AV} : Fill pl cs [] cs
  | cons {cs cs' out : List AV} {i off sz : Nat} {v : AV} {r : List (Nat × AV)} (hp : pl[i]? = some (off, sz)) (hl : v.cells.length = sz) (hc : v.cells.all AV.cell = true) (h : Put cs off v.cells cs') (hr : Fill pl cs' r out) : Fill pl cs ((i, v) :: r) out
theorem Fill.eq {pl : List (Nat × Nat)} {cs out : List AV} {r : List (Nat × AV)} (h : Fill pl cs r out) : fillA pl cs r = some out := by
  induction h with
  | nil => rfl
  | @cons cs cs' out i off sz v r hp hl hc h _ ih =>
    obtain ⟨h1, h2⟩ := h.eq
    unfold fillA
    rw [hp]
    simp only
    rw [if_pos (by simp [hl, hc]; rw [hl] at h1; exact h1), ← hl, ← h2, ih]
/-- a store with cells of one variable written over -/
inductive SPut : Sto → Nat → Nat → List AV → Sto → Prop
  | here {r off : Nat} {bt : TypeId} {cs vs cs' : List AV} {σ : Sto} (h : Put cs off vs cs') (hn : Fresh r σ) : SPut ((r, .box bt cs) :: σ) r off vs ((r, .box bt cs') :: σ)
  | next {r q off : Nat} {y : Ent} {vs : List AV} {σ σ' : Sto} (hne : r ≠ q) (h : SPut σ r off vs σ') : SPut ((q, y) :: σ) r off vs ((q, y) :: σ')
/-- a store with one entry another -/
inductive SSet : Sto → Nat → Ent → Nat → Ent → Sto → Prop
  | here {r r' : Nat} {x x' : Ent} {σ : Sto} (hn : Fresh r σ) : SSet ((r, x) :: σ) r x r' x' ((r', x') :: σ)
  | next {r q r' : Nat} {x x' y : Ent} {σ σ' : Sto} (hne : r ≠ q) (h : SSet σ r x r' x' σ') : SSet ((q, y) :: σ) r x r' x' ((q, y) :: σ')
theorem SSet.get {σ σ' : Sto} {r r' : Nat} {x x' : Ent} (h : SSet σ r x r' x' σ') : sget σ r = some x := by
  induction h with
  | here _ => exact sget_here
  | next hne _ ih => exact sget_next hne ih
theorem Fresh.cons {r q : Nat} {y : Ent} {σ : Sto} (h : q ≠ r) (k : Fresh r σ) : Fresh r ((q, y) :: σ) := by rw [fresh_cons]; exact ⟨h, k⟩
theorem SSet.sub {σ σ' : Sto} {r r' : Nat} {x x' : Ent} (h : SSet σ r x r' x' σ') : ∀ p ∈ σ', p ∈ (r', x') :: sdrop [r] σ := by
  induction h with
  | @here r r' x x' σ hn =>
    intro p hp
    rcases List.mem_cons.1 hp with rfl | hp
    · simp
    · refine List.mem_cons_of_mem _ ?_
      simp only [sdrop, List.mem_filter]
      exact ⟨List.mem_cons_of_mem _ hp, by simpa using hn p hp⟩
  | @next r q r' x x' y σ σ' hne _ ih =>
    intro p hp
    rcases List.mem_cons.1 hp with rfl | hp
    · refine List.mem_cons_of_mem _ ?_
      simp only [sdrop, List.mem_filter]
      exact ⟨by simp, by simpa using fun e => hne e.symm⟩
    · rcases List.mem_cons.1 (ih p hp) with rfl | h
      · simp
      · refine List.mem_cons_of_mem _ ?_
        simp only [sdrop, List.mem_filter] at h ⊢
        exact ⟨List.mem_cons_of_mem _ h.1, h.2⟩
/-- a store without one entry -/
inductive SDel : Sto → Nat → Ent → Sto → Prop
  | here {r : Nat} {x : Ent} {σ : Sto} (hn : Fresh r σ) : SDel ((r, x) :: σ) r x σ
  | next {r q : Nat} {x y : Ent} {σ σ' : Sto} (hne : r ≠ q) (h : SDel σ r x σ') : SDel ((q, y) :: σ) r x ((q, y) :: σ')
theorem SDel.get {σ σ' : Sto} {r : Nat} {x : Ent} (h : SDel σ r x σ') : sget σ r = some x := by
  induction h with
  | here _ => exact sget_here
  | next hne _ ih => exact sget_next hne ih
theorem SDel.sub {σ σ' : Sto} {r : Nat} {x : Ent} (h : SDel σ r x σ') : ∀ p ∈ σ', p ∈ σ ∧ p.1 ≠ r := by
  induction h with
  | here hn => intro p hp; exact ⟨List.mem_cons_of_mem _ hp, hn p hp⟩
  | next hne _ ih =>
    intro p hp
    rcases List.mem_cons.1 hp with rfl | hp
    · exact ⟨List.mem_cons_self, fun e => hne e.symm⟩
    · exact ⟨List.mem_cons_of_mem _ (ih p hp).1, (ih p hp).2⟩
theorem sgo_fz {fr : Fr} {σ σ' : Sto} {i q off len sz : Nat} {et : TypeId} {es es' : List (List AV)} (hx : fget fr i = some (.own q off len)) (hd : SDel σ q (.arr et sz es) σ') (hle : off + len ≤ es.length) (he : (es.drop off).take len = es') : SGo ⟨fr, σ⟩ ⟨(i, .ro sz es' .any) :: fr, σ'⟩ := by
  refine sgo_freeze [q] (fun j x' hj => ?_) (fun p hp => ?_)
  · simp only [fget] at hj
    split at hj
    · next e =>
      subst e
      obtain rfl := Option.some.inj hj
      exact ⟨_, hx, he ▸ Bor.own List.mem_cons_self hd.get hle⟩
    · exact ⟨x', hj, .refl _⟩
  · obtain ⟨h1, h2⟩ := hd.sub p hp
    exact ⟨by simpa using h2, p.2, h1, .refl _⟩
theorem SPut.set {σ σ' : Sto} {r off : Nat} {vs : List AV} (h : SPut σ r off vs σ') : ∃ bt cs cs', Put cs off vs cs' ∧ SSet σ r (.box bt cs) r (.box bt cs') σ' := by
  induction h with
  | here h hn => exact ⟨_, _, _, h, .here hn⟩
  | next hne _ ih => obtain ⟨bt, cs, cs', h1, h2⟩ := ih; exact ⟨bt, cs, cs', h1, .next hne h2⟩

section
variable {P : Program} {n : Nat} {ops : Array Oper} {rest : List Oper} {fr : Fr} {σ σ' : Sto} {K : ASt → Prop} {op : Op} {ty t t' : TypeId} {pos : String} {af : Array Edge} {x y : Operand} {c : Bool} {d : Nat}

theorem E {s : ASt} {v : AV} (h : aev s x = some v) : Ev s c x v := .here h
theorem W {s : ASt} {v : AV} {c' : Bool} (h : aev s x = some (.when c' v)) (hc : c = true → c' = true) : Ev s c x v := .when h hc
theorem at_bang {α : Type} [Inhabited α] {l : List α} {j : Nat} (h : j < l.length) : l[j]? = some l[j]! := by simp [h]
theorem VLe.when {cc : Bool} {x : AV} (h : cc = true) : VLe (.when cc x) x := fun _ _ _ _ hv => by
  cases hv with
  | when k _ => exact k h
theorem lop_no {P : Program} {op : Op} {ty : TypeId} {s : ASt} {v : AV} : Lop P op ty s false v [] := ⟨fun r hr => by simp at hr, fun _ _ _ _ _ _ _ hc => by cases hc⟩
theorem lop_add64c {P : Program} {ty t t' : TypeId} {s : ASt} {c : Bool} {x y : Operand} {m m' : Int} [Ty P t (.int .i64)] (h : Ev s c x (.int .i64 m)) (h' : Ev s c y (.int .i64 m')) (hb : c = true → -9223372036854775808 ≤ m + m' ∧ m + m' ≤ 9223372036854775807) : Lop P (.binOp .add t x y t') ty s c (.int .i64 (m + m')) [] := by
  cases c with
  | false => exact lop_no
  | true => exact lop_add64 h h' (hb rfl).1 (hb rfl).2
theorem lop_sub64c {P : Program} {ty t t' : TypeId} {s : ASt} {c : Bool} {x y : Operand} {m m' : Int} [Ty P t (.int .i64)] (h : Ev s c x (.int .i64 m)) (h' : Ev s c y (.int .i64 m')) (hb : c = true → -9223372036854775808 ≤ m - m' ∧ m - m' ≤ 9223372036854775807) : Lop P (.binOp .sub t x y t') ty s c (.int .i64 (m - m')) [] := by
  cases c with
  | false => exact lop_no
  | true => exact lop_sub64 h h' (hb rfl).1 (hb rfl).2
theorem StLe.of_mem {σ : Sto} : ∀ {l : Sto}, (∀ p ∈ l, p ∈ σ) → StLe σ l
  | [], _ => .nil
  | (r, y) :: l, h => .cons (h (r, y) (by simp)) rfl (StLe.of_mem fun p hp => h p (by simp [hp]))
theorem StLe.refl (σ : Sto) : StLe σ σ := .of_mem fun _ h => h
theorem lt_ble {a b : Nat} (h : Nat.ble (a + 1) b = true) : a < b := Nat.le_of_ble_eq_true h

theorem lo {v : AV} {rs : List Nat} (h : Lop P op ty ⟨fr, σ⟩ true v rs) (hd : Nat.ble (d + 1) n = true) (hK : RS P n ops rest ⟨(d, v) :: fr, σ⟩ K) : RS P n ops (⟨some d, op, ty, pos, af, none⟩ :: rest) ⟨fr, σ⟩ K := rs_light h (lt_ble hd) hK
theorem lg {j dj : Nat} {want b : Bool} {v : AV} {rs : List Nat} (hj : (ops[j]?).bind (·.dst) = some dj) (hb : fget fr dj = some (.bool b)) (h : Lop P op ty ⟨fr, σ⟩ (b == want) v rs) (hd : Nat.ble (d + 1) n = true)
    (hK : RS P n ops rest ⟨(d, .when (b == want) v) :: fr, σ⟩ K) : RS P n ops (⟨some d, op, ty, pos, af, some (j, want)⟩ :: rest) ⟨fr, σ⟩ K := rs_guard hj hb h (lt_ble hd) hK
theorem ly {j dj : Nat} {want : Bool} {v : AV} {rs : List Nat} (hj : (ops[j]?).bind (·.dst) = some dj) (hb : fget fr dj = some (.bool want)) (h : Lop P op ty ⟨fr, σ⟩ true v rs) (hd : Nat.ble (d + 1) n = true)
    (hK : RS P n ops rest ⟨(d, v) :: fr, σ⟩ K) : RS P n ops (⟨some d, op, ty, pos, af, some (j, want)⟩ :: rest) ⟨fr, σ⟩ K := rs_guard_yes hj hb h (lt_ble hd) hK
theorem lw {j dj : Nat} {want b c0 : Bool} {v : AV} {rs : List Nat} (hj : (ops[j]?).bind (·.dst) = some dj) (hb : fget fr dj = some (.when c0 (.bool b))) (h : Lop P op ty ⟨fr, σ⟩ (c0 && (b == want)) v rs) (hd : Nat.ble (d + 1) n = true)
    (hK : RS P n ops rest ⟨(d, .when (c0 && (b == want)) v) :: fr, σ⟩ K) : RS P n ops (⟨some d, op, ty, pos, af, some (j, want)⟩ :: rest) ⟨fr, σ⟩ K := rs_guard_when hj hb h (lt_ble hd) hK
theorem ln {j dj : Nat} {want b : Bool} (hj : (ops[j]?).bind (·.dst) = some dj) (hb : fget fr dj = some (.bool b)) (hne : (b == want) = false) (hd : Nat.ble (d + 1) n = true)
    (hK : RS P n ops rest ⟨(d, .when false (.bool false)) :: fr, σ⟩ K) : RS P n ops (⟨some d, op, ty, pos, af, some (j, want)⟩ :: rest) ⟨fr, σ⟩ K := by
  refine rs_guard (v := .bool false) (rs := []) hj hb ?_ (lt_ble hd) ?_
  · rw [hne]; exact lop_no
  · rw [hne]; exact hK

theorem le {ks : List Nat} {fr' : Fr} (h : KeepIs fr ks fr') (hK : K ⟨fr', σ⟩) : RS P n ops [] ⟨fr, σ⟩ (KeepK ks K) := rs_end h rfl hK

/-- a struct's value -/
theorem lop_str {s : ASt} {fs : Array Field} [Ty P t (.struct fs)] {sz by_ : Nat} {z : Value} [Tz P t sz by_ z] {pl : List (Nat × Nat)} [Tf P t pl] {parts : Array (Nat × Operand)} {vs : List (Nat × AV)} {out zs : List AV} (hp : PEvs s c parts.toList vs) (hz : z.cells.toList.map ofCell = zs) (hf : Fill pl zs vs out) :
    Lop P (.build t parts) ty s c (.agg out) [] := lop_build rfl hp (by rw [hz]; exact hf.eq)

theorem bown {ts : List Nat} {q off len sz : Nat} {et : TypeId} {es es' : List (List AV)} (ht : q ∈ ts) (hg : sget σ q = some (.arr et sz es)) (hle : off + len ≤ es.length) (he : (es.drop off).take len = es') : Bor σ ts (.own q off len) (.ro sz es' .any) := he ▸ Bor.own ht hg hle
theorem lop_pick_t {s : ASt} {x y z : Operand} {v : AV} (h : Ev s c x (.bool true)) (h1 : Ev s c y v) : Lop P (.pick x y z) ty s c v [] :=
  Lop.pure_ fun M F N n a w hr hc => ⟨_, h1.vr hr hc, fun w' o ho _ => by
    have e := h.bool hr hc
    simp [execOp, ho, e, asBool]⟩
theorem lop_pick_f {s : ASt} {x y z : Operand} {v : AV} (h : Ev s c x (.bool false)) (h1 : Ev s c z v) : Lop P (.pick x y z) ty s c v [] :=
  Lop.pure_ fun M F N n a w hr hc => ⟨_, h1.vr hr hc, fun w' o ho _ => by
    have e := h.bool hr hc
    simp [execOp, ho, e, asBool]⟩
theorem nofl_nil : ∀ x ∈ ([] : List AV), NoF x := fun x hx => by simp at hx
theorem nofl_cons {a : AV} {l : List AV} (h : NoF a) (k : ∀ x ∈ l, NoF x) : ∀ x ∈ a :: l, NoF x := fun x hx => by
  rcases List.mem_cons.1 hx with rfl | hx
  · exact h
  · exact k x hx
inductive BorL (σ : Sto) (ts : List Nat) : List AV → List AV → Prop
  | nil : BorL σ ts [] []
  | cons {x y : AV} {xs ys : List AV} (h : Bor σ ts x y) (r : BorL σ ts xs ys) : BorL σ ts (x :: xs) (y :: ys)
theorem BorL.at_ {ts : List Nat} {cs cs' : List AV} (h : BorL σ ts cs cs') : cs'.length = cs.length ∧ ∀ (j : Nat) (a' : AV), cs'[j]? = some a' → Bor σ ts (cs.getD j .undef) a' := by
  induction h with
  | nil => exact ⟨rfl, fun j a h => by simp at h⟩
  | cons h _ ih =>
    refine ⟨by simp [ih.1], fun j a' hj => ?_⟩
    cases j with
    | zero => simp at hj; subst hj; simpa using h
    | succ j => simpa using ih.2 j a' (by simpa using hj)
theorem bbox {ts : List Nat} {r off sz : Nat} {bt : TypeId} {cs cs' : List AV} (ht : r ∈ ts) (hg : sget σ r = some (.box bt cs)) (hz : cs.length = sz) (hc : cs'.all AV.cell = true) (h : BorL σ ts cs cs') : Bor σ ts (.ptr r off) (.el sz [cs'] 0 off) := by
  subst hz
  exact .bx (fun j => cs.getD j .undef) ht hg h.at_.1 (List.all_eq_true.1 hc) (fun j a hj => by simp [hj]) h.at_.2
theorem bagg {ts : List Nat} {cs cs' : List AV} (h : BorL σ ts cs cs') : Bor σ ts (.agg cs) (.agg cs') :=
  .agg (fun j => cs.getD j .undef) h.at_.1 (fun j a hj => by simp [hj]) h.at_.2

/-! ### loud steps -/
theorem bx {v : AV} {cs : List AV} (h : aev ⟨fr, σ⟩ x = some v) (hc : v.cells.all AV.cell = true) (hv : v.cells = cs) (hd : Nat.ble (d + 1) n = true) (hK : ∀ r, Fresh r σ → RS P n ops rest ⟨(d, .ptr r 0) :: fr, (r, .box t cs) :: σ⟩ K) : RS P n ops (⟨some d, .box t x, ty, pos, af, none⟩ :: rest) ⟨fr, σ⟩ K := by
  subst hv
  exact rs_heavy (hop_box h hc (lt_ble hd) hK)
theorem al {sz by_ : Nat} {z : Value} [Tz P t sz by_ z] {cs : List AV} (hd : Nat.ble (d + 1) n = true) (hz : z.cells.toList.map ofConst = cs) (hK : ∀ r, Fresh r σ → RS P n ops rest ⟨(d, .ptr r 0) :: fr, (r, .box t cs) :: σ⟩ K) : RS P n ops (⟨some d, .alloc t, ty, pos, af, none⟩ :: rest) ⟨fr, σ⟩ K := by
  subst hz
  exact rs_heavy (hop_alloc (lt_ble hd) hK)
theorem rs_sub {s : ASt} {σ2 : Sto} (h : ∀ p ∈ σ2, p ∈ s.σ) (hK : RS P n ops rest ⟨s.fr, σ2⟩ K) : RS P n ops rest s K := rs_go (s' := ⟨s.fr, σ2⟩) (SGo.of_le (fun _ x h => ⟨x, h, VLe.refl x⟩) h) hK
theorem rd_sub {listed : Array Bool} {todo : List (Nat × Bool)} {held : List (Nat × List Nat)} {s : ASt} {σ2 : Sto} (h : ∀ p ∈ σ2, p ∈ s.σ) (hK : RD P n ops listed todo held ⟨s.fr, σ2⟩ K) : RD P n ops listed todo held s K := by
  intro hsel hc M F N a w hr
  exact wpAnyC_mono (PostN.ext ((Ext.refl M F N w s.σ).sub h)) (fun _ _ h => h) _ _ _ _ (hK hsel hc M F N a w ⟨hr.size, hr.defers, hr.fr, hr.st.sub h⟩)
theorem stp {sz by_ : Nat} {z : Value} [Tz P t sz by_ z] {r off : Nat} {v : AV} (h : aev ⟨fr, σ⟩ x = some (.ptr r off)) (hv : aev ⟨fr, σ⟩ y = some v) (hc : v.cells.all AV.cell = true) (hl : v.cells.length = sz) (hs : SPut σ r off v.cells σ')
    (hK : RS P n ops rest ⟨fr, σ'⟩ K) : RS P n ops (⟨none, .store t x y, ty, pos, af, none⟩ :: rest) ⟨fr, σ⟩ K := by
  obtain ⟨bt, cs, cs', h1, h2⟩ := hs.set
  obtain ⟨k1, k2⟩ := h1.eq
  refine rs_heavy (hop_store_ptr h h2.get hv hc hl (by omega) ?_)
  refine rs_sub (fun p hp => ?_) hK
  rw [hl] at k2
  rw [← k2]
  exact h2.sub p hp
/-- a store of cells into a row of the call's own; es': the rows behind it -/
theorem sto {sz1 by_ : Nat} {z : Value} [Tz P t sz1 by_ z] {r i off : Nat} {et : TypeId} {sz : Nat} {es es' : List (List AV)} {e e' : List AV} {v : AV} (h : aev ⟨fr, σ⟩ x = some (.ow r i off)) (hv : aev ⟨fr, σ⟩ y = some v) (hc : v.cells.all AV.cell = true) (hl : v.cells.length = sz1)
    (hs : SSet σ r (.arr et sz es) r (.arr et sz es') σ') (he : es[i]? = some e) (hp : Put e off v.cells e') (he' : es' = es.set i e') (hK : RS P n ops rest ⟨fr, σ'⟩ K) : RS P n ops (⟨none, .store t x y, ty, pos, af, none⟩ :: rest) ⟨fr, σ⟩ K := by
  obtain ⟨k1, k2⟩ := hp.eq
  refine rs_heavy (hop_store_part h hs.get he (by omega) hv hc hl ?_)
  refine rs_sub (fun p hp => ?_) hK
  rw [hl] at k2
  rw [← k2, ← he']
  exact hs.sub p hp
theorem bs {e : TypeId} [Ty P t (.slice e)] {sz by_ : Nat} {zv : Value} [Tz P e sz by_ zv] {len : Nat} {parts : Array (Nat × Operand)} {vs : List AV} {es : List (List AV)} (hv : AEvs ⟨fr, σ⟩ (parts.toList.map (·.2)) vs) (hp : parts.toList = enumF 0 (parts.toList.map (·.2))) (hlen : (len == vs.length) = true) (h0 : (decide (0 < sz) && decide (len * sz ≤ 16777216)) = true)
    (hc : (vs.all fun v => v.cells.length == sz && v.cells.all AV.cell) = true) (he : vs.map AV.cells = es) (hd : Nat.ble (d + 1) n = true) (hK : ∀ r, Fresh r σ → RS P n ops rest ⟨(d, .own r 0 len) :: fr, (r, .arr e sz es) :: σ⟩ K) : RS P n ops (⟨some d, .buildSlice t len parts, ty, pos, af, none⟩ :: rest) ⟨fr, σ⟩ K := by
  subst he
  exact rs_heavy (hop_buildSlice' hp hv hlen h0 hc (lt_ble hd) hK)
theorem mk {e : TypeId} [Ty P t (.slice e)] {sz by_ : Nat} {zv : Value} [Tz P e sz by_ zv] {k k' : IntKind} {m : Int} {l : Nat} {z : List AV} (hl : aev ⟨fr, σ⟩ x = some (.int k m)) (hc : aev ⟨fr, σ⟩ y = some (.int k' m)) (hm : m = (l : Int)) (h0 : (decide (0 < sz) && (zv.cells.size == sz) && (zv.cells.toList.map ofConst).all AV.cell) = true)
    (hby : by_ * l ≤ 281474976710656) (hml : l ≤ maxLen) (hz : zv.cells.toList.map ofConst = z) (hd : Nat.ble (d + 1) n = true) (hK : ∀ r, Fresh r σ → RS P n ops rest ⟨(d, .own r 0 l) :: fr, (r, .arr e sz (List.replicate l z)) :: σ⟩ K) : RS P n ops (⟨some d, .makeSlice t x y, ty, pos, af, none⟩ :: rest) ⟨fr, σ⟩ K := by
  subst hz
  exact rs_heavy (hop_make hl hc hm h0 hby hml (lt_ble hd) hK)
/-- append onto an own row, all of it; es': the rows behind it -/
theorem ap {e : TypeId} [Ty P t (.slice e)] {sz by_ : Nat} {zv : Value} [Tz P e sz by_ zv] {r len len' : Nat} {es ys es' : List (List AV)} (hz : zv.cells.size = sz) (hb : aev ⟨fr, σ⟩ x = some (.own r 0 len)) (hg : sget σ r = some (.arr e sz es)) (hlen : len = es.length) (hy : Src ⟨fr, σ⟩ y sz ys)
    (he : es ++ ys = es') (hl' : len' = len + ys.length) (hmax : len' ≤ maxLen) (hby : len' * by_ ≤ 140737488355328) (hd : Nat.ble (d + 1) n = true)
    (hK : ∀ r', Fresh r' (sdrop [r] σ) → ∃ σ', SSet σ r (.arr e sz es) r' (.arr e sz es') σ' ∧ RS P n ops rest ⟨(d, .own r' 0 len') :: fr, σ'⟩ K) : RS P n ops (⟨some d, .call { callee := .builtin .append, args := #[x, y], argTypes := #[t, t] }, ty, pos, af, none⟩ :: rest) ⟨fr, σ⟩ K := by
  subst he hl'
  refine rs_heavy (hop_append_own hz hb hg (by omega) hy hmax hby (lt_ble hd) fun r' hf => ?_)
  obtain ⟨σ', hs, hK⟩ := hK r' hf
  rw [hlen, List.take_length]
  refine rs_sub (fun p hp => hs.sub p hp) ?_
  rw [← hlen]
  exact hK
theorem cp {e tS : TypeId} [Ty P t (.slice e)] {by_ : Nat} {zv : Value} [Tz P e 1 by_ zv] {r off len m : Nat} {et : TypeId} {es ys es' : List (List AV)} (hb : aev ⟨fr, σ⟩ x = some (.own r off len)) (hs : SSet σ r (.arr et 1 es) r (.arr et 1 es') σ') (hle : off + len ≤ es.length) (hy : Src ⟨fr, σ⟩ y 1 ys) (hm : m = min ys.length len)
    (he : es' = es.take off ++ ys.take m ++ es.drop (off + m)) (hd : Nat.ble (d + 1) n = true) (hK : RS P n ops rest ⟨(d, .int .i64 m) :: fr, σ'⟩ K) : RS P n ops (⟨some d, .call { callee := .builtin .copy, args := #[x, y], argTypes := #[t, tS] }, ty, pos, af, none⟩ :: rest) ⟨fr, σ⟩ K := by
  subst he
  exact rs_heavy (hop_copy hb hs.get hle hy hm (lt_ble hd) (rs_sub (s := ⟨_, _⟩) (fun p hp => hs.sub p hp) hK))
/-- a call that makes nothing -/
theorem pu {f : FuncId} {xs : List Operand} {ats : Array TypeId} {args : List AV} {v : AV} (ts : List Nat) (hf : ∀ args w, (callFunc f args).run P w = .ok (.enter f args) w) (h : SCall P f args [] (fun x σ' => x = v ∧ σ' = [])) (hd : Nat.ble (d + 1) n = true)
    (hargs : ArgsIf ⟨fr, σ⟩ true ts xs args) (hno : NoF v) (hK : RS P n ops rest ⟨(d, v) :: fr, σ⟩ K) : RS P n ops (⟨some d, .call { callee := .value (.func f), args := xs.toArray, argTypes := ats }, ty, pos, af, none⟩ :: rest) ⟨fr, σ⟩ K := rs_pure ts hf h (lt_ble hd) hargs hno hK
theorem pug {f : FuncId} {j dj : Nat} {want b : Bool} {xs : List Operand} {ats : Array TypeId} {args : List AV} {v : AV} (ts : List Nat) (hj : (ops[j]?).bind (·.dst) = some dj) (hb : fget fr dj = some (.bool b)) (hf : ∀ args w, (callFunc f args).run P w = .ok (.enter f args) w)
    (h : (b == want) = true → SCall P f args [] (fun x σ' => x = v ∧ σ' = [])) (hd : Nat.ble (d + 1) n = true) (hargs : ArgsIf ⟨fr, σ⟩ (b == want) ts xs args) (hno : NoF v) (hK : RS P n ops rest ⟨(d, .when (b == want) v) :: fr, σ⟩ K) :
    RS P n ops (⟨some d, .call { callee := .value (.func f), args := xs.toArray, argTypes := ats }, ty, pos, af, some (j, want)⟩ :: rest) ⟨fr, σ⟩ K := rs_pure_guard ts hj hb hf h (lt_ble hd) hargs hno hK
/-- a slice against nil -/
theorem ne {e : TypeId} [Ty P t (.slice e)] {sz : Nat} {es : List (List AV)} {k : Rk} (h : aev ⟨fr, σ⟩ x = some (.ro sz es k)) (hy : y = .const (.slice none 0 0)) (hd : Nat.ble (d + 1) n = true) (hK : ∀ b, (b = true → es = []) → (k = .nil → b = true) → RS P n ops rest ⟨(d, .bool b) :: fr, σ⟩ K) :
    RS P n ops (⟨some d, .binOp .eql t x y t', ty, pos, af, none⟩ :: rest) ⟨fr, σ⟩ K := rs_nil_eq h hy (lt_ble hd) hK
/-- a call that is lent rows ts -/
theorem cl {f : FuncId} {xs : List Operand} {ats : Array TypeId} {args : List AV} {R : AV → Sto → Prop} (ts : List Nat) (hf : ∀ args w, (callFunc f args).run P w = .ok (.enter f args) w) (h : SCall P f args [] R) (hd : Nat.ble (d + 1) n = true)
    (hargs : ArgsBor ⟨fr, σ⟩ ts xs args) (hno : ∀ x σ', R x σ' → NoF x ∧ ∀ p ∈ σ', ENoF p.2) (hK : ∀ x σ', R x σ' → (∀ p ∈ σ', Fresh p.1 σ) → RS P n ops rest ⟨(d, x) :: fr, σ' ++ σ⟩ K) :
    RS P n ops (⟨some d, .call { callee := .value (.func f), args := xs.toArray, argTypes := ats }, ty, pos, af, none⟩ :: rest) ⟨fr, σ⟩ K := rs_heavy (hop_call_lent ts hf h (lt_ble hd) hargs hno hK)
/-- a call that is given the entries σ1 -/
theorem cw {f : FuncId} {xs : List Operand} {ats : Array TypeId} {args : List AV} {R : AV → Sto → Prop} (σ1 : Sto) (hf : ∀ args w, (callFunc f args).run P w = .ok (.enter f args) w) (h : SCall P f args σ1 R) (hd : Nat.ble (d + 1) n = true)
    (hargs : ArgsLe ⟨fr, σ⟩ xs args) (hsub : ∀ p ∈ σ1, p ∈ σ) (hK : ∀ x σ', R x σ' → (∀ p ∈ σ', (∃ q ∈ σ1, q.1 = p.1) ∨ Fresh p.1 σ) → RS P n ops rest ⟨(d, x) :: fr, σ' ++ sdrop (σ1.map (·.1)) σ⟩ K) :
    RS P n ops (⟨some d, .call { callee := .value (.func f), args := xs.toArray, argTypes := ats }, ty, pos, af, none⟩ :: rest) ⟨fr, σ⟩ K := rs_heavy (hop_call hf h (lt_ble hd) hargs hsub hK)
/-- the row that slot i tells of is written by nobody from here on -/
theorem fz {i q off len sz : Nat} {et : TypeId} {es es' : List (List AV)} (hx : fget fr i = some (.own q off len)) (hd : SDel σ q (.arr et sz es) σ') (hle : off + len ≤ es.length) (he : (es.drop off).take len = es') (hK : RS P n ops rest ⟨(i, .ro sz es' .any) :: fr, σ'⟩ K) : RS P n ops rest ⟨fr, σ⟩ K :=
  rs_go (sgo_fz hx hd hle he) hK
/-- the same where a guard is a literal -/
theorem cwy {f : FuncId} {j dj : Nat} {want : Bool} {xs : List Operand} {ats : Array TypeId} {args : List AV} {R : AV → Sto → Prop} (σ1 : Sto) (hj : (ops[j]?).bind (·.dst) = some dj) (hb : fget fr dj = some (.bool want)) (hf : ∀ args w, (callFunc f args).run P w = .ok (.enter f args) w) (h : SCall P f args σ1 R) (hd : Nat.ble (d + 1) n = true)
    (hargs : ArgsLe ⟨fr, σ⟩ xs args) (hsub : ∀ p ∈ σ1, p ∈ σ) (hK : ∀ x σ', R x σ' → (∀ p ∈ σ', (∃ q ∈ σ1, q.1 = p.1) ∨ Fresh p.1 σ) → RS P n ops rest ⟨(d, x) :: fr, σ' ++ sdrop (σ1.map (·.1)) σ⟩ K) :
    RS P n ops (⟨some d, .call { callee := .value (.func f), args := xs.toArray, argTypes := ats }, ty, pos, af, some (j, want)⟩ :: rest) ⟨fr, σ⟩ K := rs_heavy_yes hj hb (hop_call hf h (lt_ble hd) hargs hsub hK)
theorem fzs {ks : List Nat} {c : Code} {Q : Exit → ASt → Prop} {fr : Fr} {σ σ' : Sto} {i q off len sz : Nat} {et : TypeId} {es es' : List (List AV)} (hx : fget fr i = some (.own q off len)) (hd : SDel σ q (.arr et sz es) σ') (hle : off + len ≤ es.length) (he : (es.drop off).take len = es') (hK : SW P n ks c ⟨(i, .ro sz es' .any) :: fr, σ'⟩ Q) : SW P n ks c ⟨fr, σ⟩ Q :=
  sw_go (sgo_fz hx hd hle he) hK
/-- a guard that is a literal and holds is no guard -/
theorem gy {dst : Option Nat} {s : ASt} {j dj : Nat} {want : Bool} (hj : (ops[j]?).bind (·.dst) = some dj) (hb : fget s.fr dj = some (.bool want)) (h : RS P n (ops) (⟨dst, op, ty, pos, af, none⟩ :: rest) s K) : RS P n ops (⟨dst, op, ty, pos, af, some (j, want)⟩ :: rest) s K := by
  intro M F N a w hr
  have hw := wanted_of (o := ⟨dst, op, ty, pos, af, some (j, want)⟩) hr rfl hj hb
  have h1 := h M F N a w hr
  unfold wpList at h1 ⊢
  rw [hw, if_pos (by cases want <;> rfl)]
  rw [if_pos (by rfl)] at h1
  exact h1

/-! ### the same in a drawn region -/
variable {listed : Array Bool} {todo : List (Nat × Bool)} {held : List (Nat × List Nat)} {i : Nat}
theorem dlo {v : AV} {rs : List Nat} (hi : ops[i]? = some ⟨some d, op, ty, pos, af, none⟩) (h : Lop P op ty ⟨fr, σ⟩ true v rs) (hd : Nat.ble (d + 1) n = true) (hK : RD P n ops (listed.setIfInBounds i true) todo ((i, rs) :: held) ⟨(d, v) :: fr, σ⟩ K) :
    RD P n ops listed ((i, true) :: todo) held ⟨fr, σ⟩ K := rd_light hi h (lt_ble hd) hK
theorem dlg {j dj : Nat} {want b : Bool} {v : AV} {rs : List Nat} (hi : ops[i]? = some ⟨some d, op, ty, pos, af, some (j, want)⟩) (hj : (ops[j]?).bind (·.dst) = some dj) (hb : fget fr dj = some (.bool b)) (h : Lop P op ty ⟨fr, σ⟩ (b == want) v rs) (hd : Nat.ble (d + 1) n = true)
    (hK : RD P n ops (listed.setIfInBounds i true) todo ((i, rs) :: held) ⟨(d, .when (b == want) v) :: fr, σ⟩ K) : RD P n ops listed ((i, true) :: todo) held ⟨fr, σ⟩ K := rd_guard hi hj hb h (lt_ble hd) hK
theorem dlw {j dj : Nat} {want b c0 : Bool} {v : AV} {rs : List Nat} (hi : ops[i]? = some ⟨some d, op, ty, pos, af, some (j, want)⟩) (hj : (ops[j]?).bind (·.dst) = some dj) (hb : fget fr dj = some (.when c0 (.bool b))) (h : Lop P op ty ⟨fr, σ⟩ (c0 && (b == want)) v rs) (hd : Nat.ble (d + 1) n = true)
    (hK : RD P n ops (listed.setIfInBounds i true) todo ((i, rs) :: held) ⟨(d, .when (c0 && (b == want)) v) :: fr, σ⟩ K) : RD P n ops listed ((i, true) :: todo) held ⟨fr, σ⟩ K := rd_guard_when hi hj hb h (lt_ble hd) hK
theorem dln {j dj : Nat} {want b : Bool} (hi : ops[i]? = some ⟨some d, op, ty, pos, af, some (j, want)⟩) (hj : (ops[j]?).bind (·.dst) = some dj) (hb : fget fr dj = some (.bool b)) (hne : (b == want) = false) (hd : Nat.ble (d + 1) n = true)
    (hK : RD P n ops (listed.setIfInBounds i true) todo ((i, []) :: held) ⟨(d, .when false (.bool false)) :: fr, σ⟩ K) : RD P n ops listed ((i, true) :: todo) held ⟨fr, σ⟩ K := by
  refine rd_guard (v := .bool false) (rs := []) hi hj hb ?_ (lt_ble hd) ?_
  · rw [hne]; exact lop_no
  · rw [hne]; exact hK
theorem de {ks : List Nat} {fr' : Fr} (h : KeepIs fr ks fr') (hK : K ⟨fr', σ⟩) : RD P n ops listed [] held ⟨fr, σ⟩ (KeepK ks K) := rd_end h rfl hK
theorem dbx {v : AV} {cs : List AV} (hi : ops[i]? = some ⟨some d, .box t x, ty, pos, af, none⟩) (h : aev ⟨fr, σ⟩ x = some v) (hc : v.cells.all AV.cell = true) (hv : v.cells = cs) (hd : Nat.ble (d + 1) n = true) (hK : ∀ r, Fresh r σ → RD P n ops (listed.setIfInBounds i true) todo held ⟨(d, .ptr r 0) :: fr, (r, .box t cs) :: σ⟩ K) :
    RD P n ops listed ((i, false) :: todo) held ⟨fr, σ⟩ K := by
  subst hv
  exact rd_new hi (hop_box h hc (lt_ble hd) hK)
theorem dal {sz by_ : Nat} {z : Value} {cs : List AV} (hi : ops[i]? = some ⟨some d, .alloc t, ty, pos, af, none⟩) (i1 : Tz P t sz by_ z) (hd : Nat.ble (d + 1) n = true) (hz : z.cells.toList.map ofConst = cs) (hK : ∀ r, Fresh r σ → RD P n ops (listed.setIfInBounds i true) todo held ⟨(d, .ptr r 0) :: fr, (r, .box t cs) :: σ⟩ K) :
    RD P n ops listed ((i, false) :: todo) held ⟨fr, σ⟩ K := by
  subst hz
  exact rd_new hi (hop_alloc (lt_ble hd) hK)
theorem dstp {sz by_ : Nat} {z : Value} {r off : Nat} {v : AV} (hi : ops[i]? = some ⟨none, .store t x y, ty, pos, af, none⟩) (i1 : Tz P t sz by_ z) (h : aev ⟨fr, σ⟩ x = some (.ptr r off)) (hv : aev ⟨fr, σ⟩ y = some v) (hc : v.cells.all AV.cell = true) (hl : v.cells.length = sz) (hs : SPut σ r off v.cells σ')
    (hb : HB ops i (σ.map (·.1)) [r] held) (hK : RD P n ops (listed.setIfInBounds i true) todo held ⟨fr, σ'⟩ K) : RD P n ops listed ((i, false) :: todo) held ⟨fr, σ⟩ K := by
  obtain ⟨bt, cs, cs', h1, h2⟩ := hs.set
  obtain ⟨k1, k2⟩ := h1.eq
  refine rd_turn hi (hop_store_ptr h h2.get hv hc hl (by omega) ?_) (fun q hq => ?_) hb
  · refine rd_sub (fun p hp => ?_) hK
    rw [hl] at k2
    rw [← k2]
    exact h2.sub p hp
  · obtain rfl := List.mem_singleton.1 hq
    exact List.mem_map.2 ⟨_, sget_mem h2.get, rfl⟩
theorem dsto {sz1 by_ : Nat} {z : Value} {r j off : Nat} {et : TypeId} {sz : Nat} {es es' : List (List AV)} {e e' : List AV} {v : AV} (hi : ops[i]? = some ⟨none, .store t x y, ty, pos, af, none⟩) (i1 : Tz P t sz1 by_ z) (h : aev ⟨fr, σ⟩ x = some (.ow r j off)) (hv : aev ⟨fr, σ⟩ y = some v) (hc : v.cells.all AV.cell = true) (hl : v.cells.length = sz1)
    (hs : SSet σ r (.arr et sz es) r (.arr et sz es') σ') (he : es[j]? = some e) (hp : Put e off v.cells e') (he' : es' = es.set j e') (hb : HB ops i (σ.map (·.1)) [r] held) (hK : RD P n ops (listed.setIfInBounds i true) todo held ⟨fr, σ'⟩ K) : RD P n ops listed ((i, false) :: todo) held ⟨fr, σ⟩ K := by
  obtain ⟨k1, k2⟩ := hp.eq
  refine rd_turn hi (hop_store_part h hs.get he (by omega) hv hc hl ?_) (fun q hq => ?_) hb
  · refine rd_sub (fun p hp => ?_) hK
    rw [hl] at k2
    rw [← k2, ← he']
    exact hs.sub p hp
  · obtain rfl := List.mem_singleton.1 hq
    exact List.mem_map.2 ⟨_, sget_mem hs.get, rfl⟩
theorem dbs {e : TypeId} {sz by_ : Nat} {zv : Value} {len : Nat} {parts : Array (Nat × Operand)} {vs : List AV} {es : List (List AV)} (hi : ops[i]? = some ⟨some d, .buildSlice t len parts, ty, pos, af, none⟩) (i1 : Ty P t (.slice e)) (i2 : Tz P e sz by_ zv) (hv : AEvs ⟨fr, σ⟩ (parts.toList.map (·.2)) vs) (hp : parts.toList = enumF 0 (parts.toList.map (·.2))) (hlen : (len == vs.length) = true) (h0 : (decide (0 < sz) && decide (len * sz ≤ 16777216)) = true)
    (hc : (vs.all fun v => v.cells.length == sz && v.cells.all AV.cell) = true) (he : vs.map AV.cells = es) (hd : Nat.ble (d + 1) n = true) (hK : ∀ r, Fresh r σ → RD P n ops (listed.setIfInBounds i true) todo held ⟨(d, .own r 0 len) :: fr, (r, .arr e sz es) :: σ⟩ K) : RD P n ops listed ((i, false) :: todo) held ⟨fr, σ⟩ K := by
  subst he
  exact rd_new hi (hop_buildSlice' hp hv hlen h0 hc (lt_ble hd) hK)
theorem dap {e : TypeId} {sz by_ : Nat} {zv : Value} {r len len' : Nat} {es ys es' : List (List AV)} (hi : ops[i]? = some ⟨some d, .call { callee := .builtin .append, args := #[x, y], argTypes := #[t, t] }, ty, pos, af, none⟩) (i1 : Ty P t (.slice e)) (i2 : Tz P e sz by_ zv) (hz : zv.cells.size = sz) (hx : aev ⟨fr, σ⟩ x = some (.own r 0 len)) (hg : sget σ r = some (.arr e sz es)) (hlen : len = es.length) (hy : Src ⟨fr, σ⟩ y sz ys)
    (he : es ++ ys = es') (hl' : len' = len + ys.length) (hmax : len' ≤ maxLen) (hby : len' * by_ ≤ 140737488355328) (hd : Nat.ble (d + 1) n = true) (hb : HB ops i (σ.map (·.1)) [r] held)
    (hK : ∀ r', Fresh r' (sdrop [r] σ) → ∃ σ', SSet σ r (.arr e sz es) r' (.arr e sz es') σ' ∧ RD P n ops (listed.setIfInBounds i true) todo held ⟨(d, .own r' 0 len') :: fr, σ'⟩ K) : RD P n ops listed ((i, false) :: todo) held ⟨fr, σ⟩ K := by
  subst he hl'
  refine rd_turn hi (hop_append_own hz hx hg (by omega) hy hmax hby (lt_ble hd) fun r' hf => ?_) (fun q hq => ?_) hb
  · obtain ⟨σ', hs, hK⟩ := hK r' hf
    rw [hlen, List.take_length]
    refine rd_sub (fun p hp => hs.sub p hp) ?_
    rw [← hlen]
    exact hK
  · obtain rfl := List.mem_singleton.1 hq
    exact List.mem_map.2 ⟨_, sget_mem hg, rfl⟩
/-- calls -/
theorem dpu {f : FuncId} {xs : List Operand} {ats : Array TypeId} {args : List AV} {v : AV} (ts : List Nat) (hi : ops[i]? = some ⟨some d, .call { callee := .value (.func f), args := xs.toArray, argTypes := ats }, ty, pos, af, none⟩) (hf : ∀ args w, (callFunc f args).run P w = .ok (.enter f args) w) (h : SCall P f args [] (fun x σ' => x = v ∧ σ' = [])) (hd : Nat.ble (d + 1) n = true)
    (hargs : ArgsIf ⟨fr, σ⟩ true ts xs args) (hno : NoF v) (hK : RD P n ops (listed.setIfInBounds i true) todo held ⟨(d, v) :: fr, σ⟩ K) : RD P n ops listed ((i, false) :: todo) held ⟨fr, σ⟩ K := rd_new hi (hop_pure ts hf h (lt_ble hd) hargs hno hK)
theorem dpug {f : FuncId} {j dj : Nat} {want b : Bool} {xs : List Operand} {ats : Array TypeId} {args : List AV} {v : AV} (ts : List Nat) (hi : ops[i]? = some ⟨some d, .call { callee := .value (.func f), args := xs.toArray, argTypes := ats }, ty, pos, af, some (j, want)⟩) (hj : (ops[j]?).bind (·.dst) = some dj) (hb : fget fr dj = some (.bool b)) (hf : ∀ args w, (callFunc f args).run P w = .ok (.enter f args) w)
    (h : (b == want) = true → SCall P f args [] (fun x σ' => x = v ∧ σ' = [])) (hd : Nat.ble (d + 1) n = true) (hargs : ArgsIf ⟨fr, σ⟩ (b == want) ts xs args) (hno : NoF v) (hK : RD P n ops (listed.setIfInBounds i true) todo held ⟨(d, .when (b == want) v) :: fr, σ⟩ K) :
    RD P n ops listed ((i, false) :: todo) held ⟨fr, σ⟩ K := rd_pure_guard ts hi hj hb hf h (lt_ble hd) hargs hno hK
theorem dcl {f : FuncId} {xs : List Operand} {ats : Array TypeId} {args : List AV} {R : AV → Sto → Prop} (ts : List Nat) (hi : ops[i]? = some ⟨some d, .call { callee := .value (.func f), args := xs.toArray, argTypes := ats }, ty, pos, af, none⟩) (hf : ∀ args w, (callFunc f args).run P w = .ok (.enter f args) w) (h : SCall P f args [] R) (hd : Nat.ble (d + 1) n = true)
    (hargs : ArgsBor ⟨fr, σ⟩ ts xs args) (hno : ∀ x σ', R x σ' → NoF x ∧ ∀ p ∈ σ', ENoF p.2) (hK : ∀ x σ', R x σ' → (∀ p ∈ σ', Fresh p.1 σ) → RD P n ops (listed.setIfInBounds i true) todo held ⟨(d, x) :: fr, σ' ++ σ⟩ K) :
    RD P n ops listed ((i, false) :: todo) held ⟨fr, σ⟩ K := rd_new hi (hop_call_lent ts hf h (lt_ble hd) hargs hno hK)
theorem dcw {f : FuncId} {xs : List Operand} {ats : Array TypeId} {args : List AV} {R : AV → Sto → Prop} (σ1 : Sto) (hi : ops[i]? = some ⟨some d, .call { callee := .value (.func f), args := xs.toArray, argTypes := ats }, ty, pos, af, none⟩) (hf : ∀ args w, (callFunc f args).run P w = .ok (.enter f args) w) (h : SCall P f args σ1 R) (hd : Nat.ble (d + 1) n = true)
    (hargs : ArgsLe ⟨fr, σ⟩ xs args) (hsub : ∀ p ∈ σ1, p ∈ σ) (hb : HB ops i (σ.map (·.1)) (σ1.map (·.1)) held) (hK : ∀ x σ', R x σ' → (∀ p ∈ σ', (∃ q ∈ σ1, q.1 = p.1) ∨ Fresh p.1 σ) → RD P n ops (listed.setIfInBounds i true) todo held ⟨(d, x) :: fr, σ' ++ sdrop (σ1.map (·.1)) σ⟩ K) :
    RD P n ops listed ((i, false) :: todo) held ⟨fr, σ⟩ K := rd_turn hi (hop_call hf h (lt_ble hd) hargs hsub hK) (fun r hr => by obtain ⟨p, hp, rfl⟩ := List.mem_map.1 hr; exact List.mem_map.2 ⟨p, hsub p hp, rfl⟩) hb
theorem dcp {e tS : TypeId} {by_ : Nat} {zv : Value} {r off len m : Nat} {et : TypeId} {es ys es' : List (List AV)} (hi : ops[i]? = some ⟨some d, .call { callee := .builtin .copy, args := #[x, y], argTypes := #[t, tS] }, ty, pos, af, none⟩) (i1 : Ty P t (.slice e)) (i2 : Tz P e 1 by_ zv) (hx : aev ⟨fr, σ⟩ x = some (.own r off len)) (hs : SSet σ r (.arr et 1 es) r (.arr et 1 es') σ') (hle : off + len ≤ es.length) (hy : Src ⟨fr, σ⟩ y 1 ys) (hm : m = min ys.length len)
    (he : es' = es.take off ++ ys.take m ++ es.drop (off + m)) (hd : Nat.ble (d + 1) n = true) (hb : HB ops i (σ.map (·.1)) [r] held) (hK : RD P n ops (listed.setIfInBounds i true) todo held ⟨(d, .int .i64 m) :: fr, σ'⟩ K) : RD P n ops listed ((i, false) :: todo) held ⟨fr, σ⟩ K := by
  subst he
  refine rd_turn hi (hop_copy hx hs.get hle hy hm (lt_ble hd) (rd_sub (s := ⟨_, _⟩) (fun p hp => hs.sub p hp) hK)) (fun q hq => ?_) hb
  obtain rfl := List.mem_singleton.1 hq
  exact List.mem_map.2 ⟨_, sget_mem hs.get, rfl⟩
end

/-! ### a field that holds nothing yet -/
theorem SR.retold {M : Mp} {F : Nat → Prop} {N : Nat} {w : World} {σ σ' : Sto} (h : SR M F N w σ) (hs : ∀ p ∈ σ', (∃ x, (p.1, x) ∈ σ) ∧ ER M F w p.1 p.2) : SR M F N w σ' := by
  refine ⟨fun p hp => (hs p hp).2, fun p hp q hq g h1 h2 => ?_, ?_, h.flt, h.fresh⟩
  · obtain ⟨x, hx⟩ := (hs p hp).1
    obtain ⟨y, hy⟩ := (hs q hq).1
    exact h.inj (p.1, x) hx (q.1, y) hy g h1 h2
  · rintro g ⟨p, hp, hg⟩
    obtain ⟨x, hx⟩ := (hs p hp).1
    exact h.nof g ⟨_, hx, hg⟩
theorem Ext.retold {M : Mp} {F : Nat → Prop} {N : Nat} {w : World} {σ σ' : Sto} (hs : ∀ p ∈ σ', ∃ x, (p.1, x) ∈ σ) : Ext M F N w σ M F N w σ' := by
  refine ⟨fun _ _ h => h, fun _ h => h, Nat.le_refl _, Only.refl _ _, ?_, fun _ h => .inl h, ?_⟩
  · rintro g ⟨p, hp, hg⟩ _
    obtain ⟨x, hx⟩ := hs p hp
    exact ⟨_, hx, hg⟩
  · intro p hp _
    obtain ⟨x, hx⟩ := hs p hp
    exact ⟨_, hx, rfl⟩
theorem sw_virt_box {P : Program} {n : Nat} {ks : List Nat} {s : ASt} {c : Code} {Q : Exit → ASt → Prop} (r off : Nat) (e : TypeId) (sz : Nat) (h0 : 0 < sz) {bt : TypeId} {cs : List AV} {z : Nat} {k : Rk} (hg : sget s.σ r = some (.box bt cs)) (hx : cs[off]? = some (.ro z [] k)) (hk : k ≠ .any)
    (h : ∀ q, Fresh q s.σ → ∃ σ', SSet s.σ r (.box bt cs) r (.box bt (cs.set off (.own q 0 0))) σ' ∧ SW P n ks c ⟨s.fr, (q, .arr e sz []) :: σ'⟩ Q) : SW P n ks c s Q := by
  intro M F N a w hr
  have hE : ER (addM M N .virt) F w N (.arr e sz []) := ⟨h0, fun x hx => by simp at hx, .inl ⟨addM_new _, rfl⟩⟩
  obtain ⟨r1, e1, n1⟩ := hr.new_ (w' := w) .virt (.arr e sz []) (fun _ _ => rfl) ⟨rfl, rfl, rfl⟩ (Nat.le_refl _) (fun g hg => by simp [blkOf, addM_new] at hg) hE
  obtain ⟨σ', hs, hK⟩ := h N n1
  have hmem : ∀ p ∈ (N, Ent.arr e sz []) :: σ', ∃ x, (p.1, x) ∈ (N, Ent.arr e sz []) :: s.σ := by
    intro p hp
    rcases List.mem_cons.1 hp with rfl | hp
    · exact ⟨_, List.mem_cons_self⟩
    · rcases List.mem_cons.1 (hs.sub p hp) with rfl | hp
      · exact ⟨_, List.mem_cons_of_mem _ (sget_mem hg)⟩
      · exact ⟨_, List.mem_cons_of_mem _ (mem_sdrop hp).1⟩
  have hr2 : Rel (addM M N .virt) F (N + 1) n ⟨s.fr, (N, .arr e sz []) :: σ'⟩ a w := by
    refine ⟨r1.size, r1.defers, r1.fr, r1.st.retold fun p hp => ⟨hmem p hp, ?_⟩⟩
    rcases List.mem_cons.1 hp with rfl | hp
    · exact hE
    · rcases List.mem_cons.1 (hs.sub p hp) with rfl | hp
      · obtain ⟨g, vs, h1, h2, h3, h4⟩ := r1.st.ent _ (List.mem_cons_of_mem _ (sget_mem hg))
        refine ⟨g, vs, by simpa using h1, h2, by simpa using h3, fun j b u hj hu => ?_⟩
        by_cases hjo : off = j
        · subst hjo
          have hlt : off < cs.length := (List.getElem?_eq_some_iff.1 hx).1
          rw [List.getElem?_set_self hlt] at hj
          obtain rfl := Option.some.inj hj
          have hv := h4 off _ u hx hu
          cases hv with
          | @ro _ _ b o _ cap us hb hs hc hrr hle hm hf hn =>
            cases k with
            | nil => exact absurd rfl hn
            | full => have := hf rfl; simp at this; subst this; exact .own0
            | any => exact absurd rfl hk
          | ro0 hm hA hf hn =>
            cases k with
            | nil => obtain rfl := hn rfl; obtain rfl := hA rfl; exact .own0
            | full => obtain rfl := hf rfl; exact .own0
            | any => exact absurd rfl hk
        · rw [List.getElem?_set_ne hjo] at hj
          exact h4 j b u hj hu
      · exact r1.st.ent p (List.mem_cons_of_mem _ (mem_sdrop hp).1)
  refine wp_mono (hK _ F _ a w hr2) ?_
  rintro e' a' w' ⟨M', F', N', s2, h1, h2, h3⟩
  exact ⟨M', F', N', s2, h1, (e1.trans (Ext.retold hmem)).trans h2, h3⟩

/-! ### control -/
section
variable {P : Program} {n : Nat} {ks : List Nat} {s : ASt} {Q : Exit → ASt → Prop}
theorem cs {x y : Code} (h : SW P n ks x s (AThen (fun s' => SW P n ks y s' Q) Q)) : SW P n ks (.seq x y) s Q := sw_seq h
theorem cb {id : Nat} {c : Code} (h : SW P n ks c s (ABlock id Q)) : SW P n ks (.block id c) s Q := sw_block h
theorem ck (h : Q .normal s) : SW P n ks .skip s Q := sw_skip h
theorem cr (h : Q .ret s) : SW P n ks .ret s Q := sw_ret h
theorem cx {id : Nat} (h : Q (.exit id) s) : SW P n ks (.exit id) s Q := sw_exit h
/-- a loop: its states st b, b of ok, and a number ms that falls -/
theorem lp {β : Type} {c : Code} (st : β → ASt) (ok : β → Prop) (ms : β → Nat) (b0 : β) (h0 : SGo s (st b0)) (hok : ok b0) (round : ∀ b, ok b → SW P n ks c (st b) (AThen (fun s2 => ∃ b', ok b' ∧ ms b' < ms b ∧ SGo s2 (st b')) Q)) : SW P n ks (.loop c) s Q :=
  sw_loop (fun m s => ∃ b, ok b ∧ ms b = m ∧ st b = s) (ms b0) ⟨_, h0, b0, hok, rfl, rfl⟩ (by
    rintro m s' ⟨b, hb, rfl, rfl⟩
    refine sw_mono (round b hb) fun e s2 h => ?_
    cases e <;> first | exact h | (obtain ⟨b', h1, h2, h3⟩ := h; exact ⟨_, _, h3, h2, b', h1, rfl, rfl⟩))
/-- two ways meet: the states st b, b of ok -/
theorem sj {β : Type} {x y : Code} (st : β → ASt) (ok : β → Prop) (hx : SW P n ks x s (AThen (fun s2 => ∃ b, ok b ∧ SGo s2 (st b)) Q)) (hy : ∀ b, ok b → SW P n ks y (st b) Q) : SW P n ks (.seq x y) s Q :=
  sw_seq (sw_mono hx fun e s2 h => by cases e <;> first | exact h | (obtain ⟨b, h1, h2⟩ := h; exact sw_go h2 (hy b h1)))
theorem ct {c : Operand} {x y : Code} (hc : aev s c = some (.bool true)) (h : SW P n ks x s Q) : SW P n ks (.cond c x y) s Q := sw_cond_true hc h
theorem cf {c : Operand} {x y : Code} (hc : aev s c = some (.bool false)) (h : SW P n ks y s Q) : SW P n ks (.cond c x y) s Q := sw_cond_false hc h
end
theorem an {K : ASt → Prop} {Q : Exit → ASt → Prop} {s : ASt} (h : K s) : AThen K Q .normal s := h
theorem ae {K : ASt → Prop} {Q : Exit → ASt → Prop} {s : ASt} {i : Nat} (h : Q (.exit i) s) : AThen K Q (.exit i) s := h
theorem ar {K : ASt → Prop} {Q : Exit → ASt → Prop} {s : ASt} (h : Q .ret s) : AThen K Q .ret s := h
theorem bn {i : Nat} {Q : Exit → ASt → Prop} {s : ASt} (h : Q .normal s) : ABlock i Q .normal s := h
theorem bh {i : Nat} {Q : Exit → ASt → Prop} {s : ASt} (h : Q .normal s) : ABlock i Q (.exit i) s := ablock_hit h
theorem be {i j : Nat} {Q : Exit → ASt → Prop} {s : ASt} (hne : (j == i) = false) (h : Q (.exit j) s) : ABlock i Q (.exit j) s := ablock_e hne h
theorem br {i : Nat} {Q : Exit → ASt → Prop} {s : ASt} (h : Q .ret s) : ABlock i Q .ret s := h


end Go.Proofs.Ytkjfflabapeidaa
