import Derived.Test.YtjpdadobblffmaaMC1
import Derived.Laws.BytesString
import Derived.ScopeJumps
import Derived.Test.YtjpdadobblffmaaProg
set_option linter.unusedSimpArgs false
set_option linter.unusedVariables false
/-
  The symbolic layer: short steps, one an operation, over a state that is written out. A program of ours prints walks of them. No program is named here.
-/
namespace Go.Proofs.Ytjpdadobblffmaa
open Go.RowKit Go.ChangeShapes Go.WideShapes Go.ChangeAt Go.Deep
/-! ### relations that a walk solves row by row -/
/-- cells written over, from a place on -/
inductive Put : List AV → Nat → List AV → List AV → Prop
  | done {l : List AV} : Put l 0 [] l
  | put {a v : AV} {l vs l' : List AV} (h : Put l 0 vs l') : Put (a :: l) 0 (v :: vs) (v :: l')
  | skip {a : AV} {k : Nat} {l vs l' : List AV} (h : Put l k vs l') : Put (a :: l) (k + 1) vs (a :: l')
theorem Put.eq {cs : List AV} {k : Nat} {vs out : List AV} (h : Put cs k vs out) : k + vs.length ≤ cs.length ∧ out = cs.take k ++ vs ++ cs.drop (k + vs.length) := by
  induction h with
  | done => simp
  | put _ ih =>
    obtain ⟨h1, h2⟩ := ih
    refine ⟨by simp at h1 ⊢; omega, ?_⟩
    simp at h2 ⊢
    exact h2
  | @skip a k l vs l' _ ih =>
    obtain ⟨h1, h2⟩ := ih
    refine ⟨by simp at h1 ⊢; omega, ?_⟩
    rw [show k + 1 + vs.length = (k + vs.length) + 1 by omega]
    simp at h2 ⊢
    exact h2
/-- a struct's fields laid one by one -/
inductive Fill (pl : List (Nat × Nat)) : List AV → List (Nat × AV) → List AV → Prop
  | nil {cs : List AV} : Fill pl cs [] cs
  | cons {cs cs' out : List AV} {i off sz : Nat} {v : AV} {r : List (Nat × AV)} (hp : pl[i]? = some (off, sz)) (hl : v.cells.length = sz) (hc : v.cells.all AV.cell = true) (h : Put cs off v.cells cs') (hr : Fill pl cs' r out) : Fill pl cs ((i, v) :: r) out
theorem Fill.eq {pl : List (Nat × Nat)} {cs out : List AV} {r : List (Nat × AV)} (h : Fill pl cs r out) : fillA pl cs r = some out := by
  induction h with
  | nil => rfl
  | @cons cs cs' out i off sz v r hp hl hc h _ ih =>
    obtain ⟨h1, h2⟩ := h.eq
    unfold fillA
    rw [hp]
    simp only
    rw [if_pos (by simp [hl, hc]; rw [hl] at h1; exact h1), ← hl, ← h2, ih]
/-- a store with cells of one variable written over -/
inductive SPut : Sto → Nat → Nat → List AV → Sto → Prop
  | here {r off : Nat} {bt : TypeId} {cs vs cs' : List AV} {σ : Sto} (h : Put cs off vs cs') (hn : Fresh r σ) : SPut ((r, .box bt cs) :: σ) r off vs ((r, .box bt cs') :: σ)
  | next {r q off : Nat} {y : Ent} {vs : List AV} {σ σ' : Sto} (hne : r ≠ q) (h : SPut σ r off vs σ') : SPut ((q, y) :: σ) r off vs ((q, y) :: σ')
/-- a store with one entry another -/
inductive SSet : Sto → Nat → Ent → Nat → Ent → Sto → Prop
  | here {r r' : Nat} {x x' : Ent} {σ : Sto} (hn : Fresh r σ) : SSet ((r, x) :: σ) r x r' x' ((r', x') :: σ)
  | next {r q r' : Nat} {x x' y : Ent} {σ σ' : Sto} (hne : r ≠ q) (h : SSet σ r x r' x' σ') : SSet ((q, y) :: σ) r x r' x' ((q, y) :: σ')
theorem SSet.get {σ σ' : Sto} {r r' : Nat} {x x' : Ent} (h : SSet σ r x r' x' σ') : sget σ r = some x := by
  induction h with
  | here _ => exact sget_here
  | next hne _ ih => exact sget_next hne ih
theorem Fresh.cons {r q : Nat} {y : Ent} {σ : Sto} (h : q ≠ r) (k : Fresh r σ) : Fresh r ((q, y) :: σ) := by rw [fresh_cons]; exact ⟨h, k⟩
theorem SSet.sub {σ σ' : Sto} {r r' : Nat} {x x' : Ent} (h : SSet σ r x r' x' σ') : ∀ p ∈ σ', p ∈ (r', x') :: sdrop [r] σ := by
  induction h with
  | @here r r' x x' σ hn =>
    intro p hp
    rcases List.mem_cons.1 hp with rfl | hp
    · simp
    · refine List.mem_cons_of_mem _ ?_
      simp only [sdrop, List.mem_filter]
      exact ⟨List.mem_cons_of_mem _ hp, by simpa using hn p hp⟩
  | @next r q r' x x' y σ σ' hne _ ih =>
    intro p hp
    rcases List.mem_cons.1 hp with rfl | hp
    · refine List.mem_cons_of_mem _ ?_
      simp only [sdrop, List.mem_filter]
      exact ⟨by simp, by simpa using fun e => hne e.symm⟩
    · rcases List.mem_cons.1 (ih p hp) with rfl | h
      · simp
      · refine List.mem_cons_of_mem _ ?_
        simp only [sdrop, List.mem_filter] at h ⊢
        exact ⟨List.mem_cons_of_mem _ h.1, h.2⟩
/-- a store without one entry -/
inductive SDel : Sto → Nat → Ent → Sto → Prop
  | here {r : Nat} {x : Ent} {σ : Sto} (hn : Fresh r σ) : SDel ((r, x) :: σ) r x σ
  | next {r q : Nat} {x y : Ent} {σ σ' : Sto} (hne : r ≠ q) (h : SDel σ r x σ') : SDel ((q, y) :: σ) r x ((q, y) :: σ')
theorem SDel.get {σ σ' : Sto} {r : Nat} {x : Ent} (h : SDel σ r x σ') : sget σ r = some x := by
  induction h with
  | here _ => exact sget_here
  | next hne _ ih => exact sget_next hne ih
theorem SDel.sub {σ σ' : Sto} {r : Nat} {x : Ent} (h : SDel σ r x σ') : ∀ p ∈ σ', p ∈ σ ∧ p.1 ≠ r := by
  induction h with
  | here hn => intro p hp; exact ⟨List.mem_cons_of_mem _ hp, hn p hp⟩
  | next hne _ ih =>
    intro p hp
    rcases List.mem_cons.1 hp with rfl | hp
    · exact ⟨List.mem_cons_self, fun e => hne e.symm⟩
    · exact ⟨List.mem_cons_of_mem _ (ih p hp).1, (ih p hp).2⟩
theorem sgo_fz {fr : Fr} {σ σ' : Sto} {i q off len sz : Nat} {et : TypeId} {es es' : List (List AV)} (hx : fget fr i = some (.own q off len)) (hd : SDel σ q (.arr et sz es) σ') (hle : off + len ≤ es.length) (he : (es.drop off).take len = es') : SGo ⟨fr, σ⟩ ⟨(i, .ro sz es' .any) :: fr, σ'⟩ := by
  refine sgo_freeze [q] (fun j x' hj => ?_) (fun p hp => ?_)
  · simp only [fget] at hj
    split at hj
    · next e =>
      subst e
      obtain rfl := Option.some.inj hj
      exact ⟨_, hx, he ▸ Bor.own List.mem_cons_self hd.get hle⟩
    · exact ⟨x', hj, .refl _⟩
  · obtain ⟨h1, h2⟩ := hd.sub p hp
    exact ⟨by simpa using h2, p.2, h1, .refl _⟩
theorem SPut.set {σ σ' : Sto} {r off : Nat} {vs : List AV} (h : SPut σ r off vs σ') : ∃ bt cs cs', Put cs off vs cs' ∧ SSet σ r (.box bt cs) r (.box bt cs') σ' := by
  induction h with
  | here h hn => exact ⟨_, _, _, h, .here hn⟩
  | next hne _ ih => obtain ⟨bt, cs, cs', h1, h2⟩ := ih; exact ⟨bt, cs, cs', h1, .next hne h2⟩

section
variable {P : Program} {n : Nat} {ops : Array Oper} {rest : List Oper} {fr : Fr} {σ σ' : Sto} {K : ASt → Prop} {op : Op} {ty t t' : TypeId} {pos : String} {af : Array Edge} {x y : Operand} {c : Bool} {d : Nat}

theorem E {s : ASt} {v : AV} (h : aev s x = some v) : Ev s c x v := .here h
theorem W {s : ASt} {v : AV} {c' : Bool} (h : aev s x = some (.when c' v)) (hc : c = true → c' = true) : Ev s c x v := .when h hc
theorem at_bang {α : Type} [Inhabited α] {l : List α} {j : Nat} (h : j < l.length) : l[j]? = some l[j]! := by simp [h]
theorem VLe.when {cc : Bool} {x : AV} (h : cc = true) : VLe (.when cc x) x := fun _ _ _ _ hv => by
  cases hv with
  | when k _ => exact k h
theorem lop_no {P : Program} {op : Op} {ty : TypeId} {s : ASt} {v : AV} : Lop P op ty s false v [] := ⟨fun r hr => by simp at hr, fun _ _ _ _ _ _ _ hc => by cases hc⟩
theorem lop_add64c {P : Program} {ty t t' : TypeId} {s : ASt} {c : Bool} {x y : Operand} {m m' : Int} [Ty P t (.int .i64)] (h : Ev s c x (.int .i64 m)) (h' : Ev s c y (.int .i64 m')) (hb : c = true → -9223372036854775808 ≤ m + m' ∧ m + m' ≤ 9223372036854775807) : Lop P (.binOp .add t x y t') ty s c (.int .i64 (m + m')) [] := by
  cases c with
  | false => exact lop_no
  | true => exact lop_add64 h h' (hb rfl).1 (hb rfl).2
theorem lop_sub64c {P : Program} {ty t t' : TypeId} {s : ASt} {c : Bool} {x y : Operand} {m m' : Int} [Ty P t (.int .i64)] (h : Ev s c x (.int .i64 m)) (h' : Ev s c y (.int .i64 m')) (hb : c = true → -9223372036854775808 ≤ m - m' ∧ m - m' ≤ 9223372036854775807) : Lop P (.binOp .sub t x y t') ty s c (.int .i64 (m - m')) [] := by
  cases c with
  | false => exact lop_no
  | true => exact lop_sub64 h h' (hb rfl).1 (hb rfl).2
theorem StLe.of_mem {σ : Sto} : ∀ {l : Sto}, (∀ p ∈ l, p ∈ σ) → StLe σ l
  | [], _ => .nil
  | (r, y) :: l, h => .cons (h (r, y) (by simp)) rfl (StLe.of_mem fun p hp => h p (by simp [hp]))
theorem StLe.refl (σ : Sto) : StLe σ σ := .of_mem fun _ h => h
theorem lt_ble {a b : Nat} (h : Nat.ble (a + 1) b = true) : a < b := Nat.le_of_ble_eq_true h

theorem lo {v : AV} {rs : List Nat} (h : Lop P op ty ⟨fr, σ⟩ true v rs) (hd : Nat.ble (d + 1) n = true) (hK : RS P n ops rest ⟨(d, v) :: fr, σ⟩ K) : RS P n ops (⟨some d, op, ty, pos, af, none⟩ :: rest) ⟨fr, σ⟩ K := rs_light h (lt_ble hd) hK
theorem lg {j dj : Nat} {want b : Bool} {v : AV} {rs : List Nat} (hj : (ops[j]?).bind (·.dst) = some dj) (hb : fget fr dj = some (.bool b)) (h : Lop P op ty ⟨fr, σ⟩ (b == want) v rs) (hd : Nat.ble (d + 1) n = true)
    (hK : RS P n ops rest ⟨(d, .when (b == want) v) :: fr, σ⟩ K) : RS P n ops (⟨some d, op, ty, pos, af, some (j, want)⟩ :: rest) ⟨fr, σ⟩ K := rs_guard hj hb h (lt_ble hd) hK
theorem lw {j dj : Nat} {want b c0 : Bool} {v : AV} {rs : List Nat} (hj : (ops[j]?).bind (·.dst) = some dj) (hb : fget fr dj = some (.when c0 (.bool b))) (h : Lop P op ty ⟨fr, σ⟩ (c0 && (b == want)) v rs) (hd : Nat.ble (d + 1) n = true)
    (hK : RS P n ops rest ⟨(d, .when (c0 && (b == want)) v) :: fr, σ⟩ K) : RS P n ops (⟨some d, op, ty, pos, af, some (j, want)⟩ :: rest) ⟨fr, σ⟩ K := rs_guard_when hj hb h (lt_ble hd) hK
theorem ln {j dj : Nat} {want b : Bool} (hj : (ops[j]?).bind (·.dst) = some dj) (hb : fget fr dj = some (.bool b)) (hne : (b == want) = false) (hd : Nat.ble (d + 1) n = true)
    (hK : RS P n ops rest ⟨(d, .when false (.bool false)) :: fr, σ⟩ K) : RS P n ops (⟨some d, op, ty, pos, af, some (j, want)⟩ :: rest) ⟨fr, σ⟩ K := by
  refine rs_guard (v := .bool false) (rs := []) hj hb ?_ (lt_ble hd) ?_
  · rw [hne]; exact lop_no
  · rw [hne]; exact hK

theorem le {ks : List Nat} {fr' : Fr} (h : KeepIs fr ks fr') (hK : K ⟨fr', σ⟩) : RS P n ops [] ⟨fr, σ⟩ (KeepK ks K) := rs_end h rfl hK

/-- a struct's value -/
theorem lop_str {s : ASt} {fs : Array Field} [Ty P t (.struct fs)] {sz by_ : Nat} {z : Value} [Tz P t sz by_ z] {pl : List (Nat × Nat)} [Tf P t pl] {parts : Array (Nat × Operand)} {vs : List (Nat × AV)} {out zs : List AV} (hp : PEvs s c parts.toList vs) (hz : z.cells.toList.map ofCell = zs) (hf : Fill pl zs vs out) :
    Lop P (.build t parts) ty s c (.agg out) [] := lop_build rfl hp (by rw [hz]; exact hf.eq)

theorem bown {ts : List Nat} {q off len sz : Nat} {et : TypeId} {es es' : List (List AV)} (ht : q ∈ ts) (hg : sget σ q = some (.arr et sz es)) (hle : off + len ≤ es.length) (he : (es.drop off).take len = es') : Bor σ ts (.own q off len) (.ro sz es' .any) := he ▸ Bor.own ht hg hle
theorem lop_pick_t {s : ASt} {x y z : Operand} {v : AV} (h : Ev s c x (.bool true)) (h1 : Ev s c y v) : Lop P (.pick x y z) ty s c v [] :=
  Lop.pure_ fun M F N n a w hr hc => ⟨_, h1.vr hr hc, fun w' o ho _ => by
    have e := h.bool hr hc
    simp [execOp, ho, e, asBool]⟩
theorem lop_pick_f {s : ASt} {x y z : Operand} {v : AV} (h : Ev s c x (.bool false)) (h1 : Ev s c z v) : Lop P (.pick x y z) ty s c v [] :=
  Lop.pure_ fun M F N n a w hr hc => ⟨_, h1.vr hr hc, fun w' o ho _ => by
    have e := h.bool hr hc
    simp [execOp, ho, e, asBool]⟩
theorem nofl_nil : ∀ x ∈ ([] : List AV), NoF x := fun x hx => by simp at hx
theorem nofl_cons {a : AV} {l : List AV} (h : NoF a) (k : ∀ x ∈ l, NoF x) : ∀ x ∈ a :: l, NoF x := fun x hx => by
  rcases List.mem_cons.1 hx with rfl | hx
  · exact h
  · exact k x hx
inductive BorL (σ : Sto) (ts : List Nat) : List AV → List AV → Prop
  | nil : BorL σ ts [] []
  | cons {x y : AV} {xs ys : List AV} (h : Bor σ ts x y) (r : BorL σ ts xs ys) : BorL σ ts (x :: xs) (y :: ys)
theorem BorL.at_ {ts : List Nat} {cs cs' : List AV} (h : BorL σ ts cs cs') : cs'.length = cs.length ∧ ∀ (j : Nat) (a' : AV), cs'[j]? = some a' → Bor σ ts (cs.getD j .undef) a' := by
  induction h with
  | nil => exact ⟨rfl, fun j a h => by simp at h⟩
  | cons h _ ih =>
    refine ⟨by simp [ih.1], fun j a' hj => ?_⟩
    cases j with
    | zero => simp at hj; subst hj; simpa using h
    | succ j => simpa using ih.2 j a' (by simpa using hj)
theorem bbox {ts : List Nat} {r off sz : Nat} {bt : TypeId} {cs cs' : List AV} (ht : r ∈ ts) (hg : sget σ r = some (.box bt cs)) (hz : cs.length = sz) (hc : cs'.all AV.cell = true) (h : BorL σ ts cs cs') : Bor σ ts (.ptr r off) (.el sz [cs'] 0 off) := by
  subst hz
  exact .bx (fun j => cs.getD j .undef) ht hg h.at_.1 (List.all_eq_true.1 hc) (fun j a hj => by simp [hj]) h.at_.2
theorem bagg {ts : List Nat} {cs cs' : List AV} (h : BorL σ ts cs cs') : Bor σ ts (.agg cs) (.agg cs') :=
  .agg (fun j => cs.getD j .undef) h.at_.1 (fun j a hj => by simp [hj]) h.at_.2

/-! ### loud steps -/
theorem bx {v : AV} {cs : List AV} (h : aev ⟨fr, σ⟩ x = some v) (hc : v.cells.all AV.cell = true) (hv : v.cells = cs) (hd : Nat.ble (d + 1) n = true) (hK : ∀ r, Fresh r σ → RS P n ops rest ⟨(d, .ptr r 0) :: fr, (r, .box t cs) :: σ⟩ K) : RS P n ops (⟨some d, .box t x, ty, pos, af, none⟩ :: rest) ⟨fr, σ⟩ K := by
  subst hv
  exact rs_heavy (hop_box h hc (lt_ble hd) hK)
theorem al {sz by_ : Nat} {z : Value} [Tz P t sz by_ z] {cs : List AV} (hd : Nat.ble (d + 1) n = true) (hz : z.cells.toList.map ofConst = cs) (hK : ∀ r, Fresh r σ → RS P n ops rest ⟨(d, .ptr r 0) :: fr, (r, .box t cs) :: σ⟩ K) : RS P n ops (⟨some d, .alloc t, ty, pos, af, none⟩ :: rest) ⟨fr, σ⟩ K := by
  subst hz
  exact rs_heavy (hop_alloc (lt_ble hd) hK)
theorem rs_sub {s : ASt} {σ2 : Sto} (h : ∀ p ∈ σ2, p ∈ s.σ) (hK : RS P n ops rest ⟨s.fr, σ2⟩ K) : RS P n ops rest s K := rs_go (s' := ⟨s.fr, σ2⟩) (SGo.of_le (fun _ x h => ⟨x, h, VLe.refl x⟩) h) hK
theorem rd_sub {listed : Array Bool} {todo : List (Nat × Bool)} {held : List (Nat × List Nat)} {s : ASt} {σ2 : Sto} (h : ∀ p ∈ σ2, p ∈ s.σ) (hK : RD P n ops listed todo held ⟨s.fr, σ2⟩ K) : RD P n ops listed todo held s K := by
  intro hsel hc M F N a w hr
  exact wpAnyC_mono (PostN.ext ((Ext.refl M F N w s.σ).sub h)) (fun _ _ h => h) _ _ _ _ (hK hsel hc M F N a w ⟨hr.size, hr.defers, hr.fr, hr.st.sub h⟩)
theorem stp {sz by_ : Nat} {z : Value} [Tz P t sz by_ z] {r off : Nat} {v : AV} (h : aev ⟨fr, σ⟩ x = some (.ptr r off)) (hv : aev ⟨fr, σ⟩ y = some v) (hc : v.cells.all AV.cell = true) (hl : v.cells.length = sz) (hs : SPut σ r off v.cells σ')
    (hK : RS P n ops rest ⟨fr, σ'⟩ K) : RS P n ops (⟨none, .store t x y, ty, pos, af, none⟩ :: rest) ⟨fr, σ⟩ K := by
  obtain ⟨bt, cs, cs', h1, h2⟩ := hs.set
  obtain ⟨k1, k2⟩ := h1.eq
  refine rs_heavy (hop_store_ptr h h2.get hv hc hl (by omega) ?_)
  refine rs_sub (fun p hp => ?_) hK
  rw [hl] at k2
  rw [← k2]
  exact h2.sub p hp
/-- a store of cells into a row of the call's own; es': the rows behind it -/
theorem sto {sz1 by_ : Nat} {z : Value} [Tz P t sz1 by_ z] {r i off : Nat} {et : TypeId} {sz : Nat} {es es' : List (List AV)} {e e' : List AV} {v : AV} (h : aev ⟨fr, σ⟩ x = some (.ow r i off)) (hv : aev ⟨fr, σ⟩ y = some v) (hc : v.cells.all AV.cell = true) (hl : v.cells.length = sz1)
    (hs : SSet σ r (.arr et sz es) r (.arr et sz es') σ') (he : es[i]? = some e) (hp : Put e off v.cells e') (he' : es' = es.set i e') (hK : RS P n ops rest ⟨fr, σ'⟩ K) : RS P n ops (⟨none, .store t x y, ty, pos, af, none⟩ :: rest) ⟨fr, σ⟩ K := by
  obtain ⟨k1, k2⟩ := hp.eq
  refine rs_heavy (hop_store_part h hs.get he (by omega) hv hc hl ?_)
  refine rs_sub (fun p hp => ?_) hK
  rw [hl] at k2
  rw [← k2, ← he']
  exact hs.sub p hp
theorem bs {e : TypeId} [Ty P t (.slice e)] {sz by_ : Nat} {zv : Value} [Tz P e sz by_ zv] {len : Nat} {parts : Array (Nat × Operand)} {vs : List AV} {es : List (List AV)} (hv : AEvs ⟨fr, σ⟩ (parts.toList.map (·.2)) vs) (hp : parts.toList = enumF 0 (parts.toList.map (·.2))) (hlen : (len == vs.length) = true) (h0 : (decide (0 < sz) && decide (len * sz ≤ 16777216)) = true)
    (hc : (vs.all fun v => v.cells.length == sz && v.cells.all AV.cell) = true) (he : vs.map AV.cells = es) (hd : Nat.ble (d + 1) n = true) (hK : ∀ r, Fresh r σ → RS P n ops rest ⟨(d, .own r 0 len) :: fr, (r, .arr e sz es) :: σ⟩ K) : RS P n ops (⟨some d, .buildSlice t len parts, ty, pos, af, none⟩ :: rest) ⟨fr, σ⟩ K := by
  subst he
  exact rs_heavy (hop_buildSlice' hp hv hlen h0 hc (lt_ble hd) hK)
/-- append onto an own row, all of it; es': the rows behind it -/
theorem ap {e : TypeId} [Ty P t (.slice e)] {sz by_ : Nat} {zv : Value} [Tz P e sz by_ zv] {r len len' : Nat} {es ys es' : List (List AV)} (hz : zv.cells.size = sz) (hb : aev ⟨fr, σ⟩ x = some (.own r 0 len)) (hg : sget σ r = some (.arr e sz es)) (hlen : len = es.length) (hy : Src ⟨fr, σ⟩ y sz ys)
    (he : es ++ ys = es') (hl' : len' = len + ys.length) (hmax : len' ≤ maxLen) (hby : len' * by_ ≤ 140737488355328) (hd : Nat.ble (d + 1) n = true)
    (hK : ∀ r', Fresh r' (sdrop [r] σ) → ∃ σ', SSet σ r (.arr e sz es) r' (.arr e sz es') σ' ∧ RS P n ops rest ⟨(d, .own r' 0 len') :: fr, σ'⟩ K) : RS P n ops (⟨some d, .call { callee := .builtin .append, args := #[x, y], argTypes := #[t, t] }, ty, pos, af, none⟩ :: rest) ⟨fr, σ⟩ K := by
  subst he hl'
  refine rs_heavy (hop_append_own hz hb hg (by omega) hy hmax hby (lt_ble hd) fun r' hf => ?_)
  obtain ⟨σ', hs, hK⟩ := hK r' hf
  rw [hlen, List.take_length]
  refine rs_sub (fun p hp => hs.sub p hp) ?_
  rw [← hlen]
  exact hK
/-- a call that makes nothing -/
theorem pu {f : FuncId} {xs : List Operand} {ats : Array TypeId} {args : List AV} {v : AV} (ts : List Nat) (hf : ∀ args w, (callFunc f args).run P w = .ok (.enter f args) w) (h : SCall P f args [] (fun x σ' => x = v ∧ σ' = [])) (hd : Nat.ble (d + 1) n = true)
    (hargs : ArgsIf ⟨fr, σ⟩ true ts xs args) (hno : NoF v) (hK : RS P n ops rest ⟨(d, v) :: fr, σ⟩ K) : RS P n ops (⟨some d, .call { callee := .value (.func f), args := xs.toArray, argTypes := ats }, ty, pos, af, none⟩ :: rest) ⟨fr, σ⟩ K := rs_pure ts hf h (lt_ble hd) hargs hno hK
theorem pug {f : FuncId} {j dj : Nat} {want b : Bool} {xs : List Operand} {ats : Array TypeId} {args : List AV} {v : AV} (ts : List Nat) (hj : (ops[j]?).bind (·.dst) = some dj) (hb : fget fr dj = some (.bool b)) (hf : ∀ args w, (callFunc f args).run P w = .ok (.enter f args) w)
    (h : (b == want) = true → SCall P f args [] (fun x σ' => x = v ∧ σ' = [])) (hd : Nat.ble (d + 1) n = true) (hargs : ArgsIf ⟨fr, σ⟩ (b == want) ts xs args) (hno : NoF v) (hK : RS P n ops rest ⟨(d, .when (b == want) v) :: fr, σ⟩ K) :
    RS P n ops (⟨some d, .call { callee := .value (.func f), args := xs.toArray, argTypes := ats }, ty, pos, af, some (j, want)⟩ :: rest) ⟨fr, σ⟩ K := rs_pure_guard ts hj hb hf h (lt_ble hd) hargs hno hK
/-- a call that is lent rows ts -/
theorem cl {f : FuncId} {xs : List Operand} {ats : Array TypeId} {args : List AV} {R : AV → Sto → Prop} (ts : List Nat) (hf : ∀ args w, (callFunc f args).run P w = .ok (.enter f args) w) (h : SCall P f args [] R) (hd : Nat.ble (d + 1) n = true)
    (hargs : ArgsBor ⟨fr, σ⟩ ts xs args) (hno : ∀ x σ', R x σ' → NoF x ∧ ∀ p ∈ σ', ENoF p.2) (hK : ∀ x σ', R x σ' → (∀ p ∈ σ', Fresh p.1 σ) → RS P n ops rest ⟨(d, x) :: fr, σ' ++ σ⟩ K) :
    RS P n ops (⟨some d, .call { callee := .value (.func f), args := xs.toArray, argTypes := ats }, ty, pos, af, none⟩ :: rest) ⟨fr, σ⟩ K := rs_heavy (hop_call_lent ts hf h (lt_ble hd) hargs hno hK)
/-- a call that is given the entries σ1 -/
theorem cw {f : FuncId} {xs : List Operand} {ats : Array TypeId} {args : List AV} {R : AV → Sto → Prop} (σ1 : Sto) (hf : ∀ args w, (callFunc f args).run P w = .ok (.enter f args) w) (h : SCall P f args σ1 R) (hd : Nat.ble (d + 1) n = true)
    (hargs : ArgsLe ⟨fr, σ⟩ xs args) (hsub : ∀ p ∈ σ1, p ∈ σ) (hK : ∀ x σ', R x σ' → (∀ p ∈ σ', (∃ q ∈ σ1, q.1 = p.1) ∨ Fresh p.1 σ) → RS P n ops rest ⟨(d, x) :: fr, σ' ++ sdrop (σ1.map (·.1)) σ⟩ K) :
    RS P n ops (⟨some d, .call { callee := .value (.func f), args := xs.toArray, argTypes := ats }, ty, pos, af, none⟩ :: rest) ⟨fr, σ⟩ K := rs_heavy (hop_call hf h (lt_ble hd) hargs hsub hK)
/-- the row that slot i tells of is written by nobody from here on -/
theorem fz {i q off len sz : Nat} {et : TypeId} {es es' : List (List AV)} (hx : fget fr i = some (.own q off len)) (hd : SDel σ q (.arr et sz es) σ') (hle : off + len ≤ es.length) (he : (es.drop off).take len = es') (hK : RS P n ops rest ⟨(i, .ro sz es' .any) :: fr, σ'⟩ K) : RS P n ops rest ⟨fr, σ⟩ K :=
  rs_go (sgo_fz hx hd hle he) hK
/-- a guard that is a literal and holds is no guard -/
theorem gy {dst : Option Nat} {s : ASt} {j dj : Nat} {want : Bool} (hj : (ops[j]?).bind (·.dst) = some dj) (hb : fget s.fr dj = some (.bool want)) (h : RS P n (ops) (⟨dst, op, ty, pos, af, none⟩ :: rest) s K) : RS P n ops (⟨dst, op, ty, pos, af, some (j, want)⟩ :: rest) s K := by
  intro M F N a w hr
  have hw := wanted_of (o := ⟨dst, op, ty, pos, af, some (j, want)⟩) hr rfl hj hb
  have h1 := h M F N a w hr
  unfold wpList at h1 ⊢
  rw [hw, if_pos (by cases want <;> rfl)]
  rw [if_pos (by rfl)] at h1
  exact h1

/-! ### the same in a drawn region -/
variable {listed : Array Bool} {todo : List (Nat × Bool)} {held : List (Nat × List Nat)} {i : Nat}
theorem dlo {v : AV} {rs : List Nat} (hi : ops[i]? = some ⟨some d, op, ty, pos, af, none⟩) (h : Lop P op ty ⟨fr, σ⟩ true v rs) (hd : Nat.ble (d + 1) n = true) (hK : RD P n ops (listed.setIfInBounds i true) todo ((i, rs) :: held) ⟨(d, v) :: fr, σ⟩ K) :
    RD P n ops listed ((i, true) :: todo) held ⟨fr, σ⟩ K := rd_light hi h (lt_ble hd) hK
theorem dlg {j dj : Nat} {want b : Bool} {v : AV} {rs : List Nat} (hi : ops[i]? = some ⟨some d, op, ty, pos, af, some (j, want)⟩) (hj : (ops[j]?).bind (·.dst) = some dj) (hb : fget fr dj = some (.bool b)) (h : Lop P op ty ⟨fr, σ⟩ (b == want) v rs) (hd : Nat.ble (d + 1) n = true)
    (hK : RD P n ops (listed.setIfInBounds i true) todo ((i, rs) :: held) ⟨(d, .when (b == want) v) :: fr, σ⟩ K) : RD P n ops listed ((i, true) :: todo) held ⟨fr, σ⟩ K := rd_guard hi hj hb h (lt_ble hd) hK
theorem dlw {j dj : Nat} {want b c0 : Bool} {v : AV} {rs : List Nat} (hi : ops[i]? = some ⟨some d, op, ty, pos, af, some (j, want)⟩) (hj : (ops[j]?).bind (·.dst) = some dj) (hb : fget fr dj = some (.when c0 (.bool b))) (h : Lop P op ty ⟨fr, σ⟩ (c0 && (b == want)) v rs) (hd : Nat.ble (d + 1) n = true)
    (hK : RD P n ops (listed.setIfInBounds i true) todo ((i, rs) :: held) ⟨(d, .when (c0 && (b == want)) v) :: fr, σ⟩ K) : RD P n ops listed ((i, true) :: todo) held ⟨fr, σ⟩ K := rd_guard_when hi hj hb h (lt_ble hd) hK
theorem dln {j dj : Nat} {want b : Bool} (hi : ops[i]? = some ⟨some d, op, ty, pos, af, some (j, want)⟩) (hj : (ops[j]?).bind (·.dst) = some dj) (hb : fget fr dj = some (.bool b)) (hne : (b == want) = false) (hd : Nat.ble (d + 1) n = true)
    (hK : RD P n ops (listed.setIfInBounds i true) todo ((i, []) :: held) ⟨(d, .when false (.bool false)) :: fr, σ⟩ K) : RD P n ops listed ((i, true) :: todo) held ⟨fr, σ⟩ K := by
  refine rd_guard (v := .bool false) (rs := []) hi hj hb ?_ (lt_ble hd) ?_
  · rw [hne]; exact lop_no
  · rw [hne]; exact hK
theorem de {ks : List Nat} {fr' : Fr} (h : KeepIs fr ks fr') (hK : K ⟨fr', σ⟩) : RD P n ops listed [] held ⟨fr, σ⟩ (KeepK ks K) := rd_end h rfl hK
theorem dstp {sz by_ : Nat} {z : Value} {r off : Nat} {v : AV} (hi : ops[i]? = some ⟨none, .store t x y, ty, pos, af, none⟩) (i1 : Tz P t sz by_ z) (h : aev ⟨fr, σ⟩ x = some (.ptr r off)) (hv : aev ⟨fr, σ⟩ y = some v) (hc : v.cells.all AV.cell = true) (hl : v.cells.length = sz) (hs : SPut σ r off v.cells σ')
    (hb : HB ops i (σ.map (·.1)) [r] held) (hK : RD P n ops (listed.setIfInBounds i true) todo held ⟨fr, σ'⟩ K) : RD P n ops listed ((i, false) :: todo) held ⟨fr, σ⟩ K := by
  obtain ⟨bt, cs, cs', h1, h2⟩ := hs.set
  obtain ⟨k1, k2⟩ := h1.eq
  refine rd_turn hi (hop_store_ptr h h2.get hv hc hl (by omega) ?_) (fun q hq => ?_) hb
  · refine rd_sub (fun p hp => ?_) hK
    rw [hl] at k2
    rw [← k2]
    exact h2.sub p hp
  · obtain rfl := List.mem_singleton.1 hq
    exact List.mem_map.2 ⟨_, sget_mem h2.get, rfl⟩
theorem dsto {sz1 by_ : Nat} {z : Value} {r j off : Nat} {et : TypeId} {sz : Nat} {es es' : List (List AV)} {e e' : List AV} {v : AV} (hi : ops[i]? = some ⟨none, .store t x y, ty, pos, af, none⟩) (i1 : Tz P t sz1 by_ z) (h : aev ⟨fr, σ⟩ x = some (.ow r j off)) (hv : aev ⟨fr, σ⟩ y = some v) (hc : v.cells.all AV.cell = true) (hl : v.cells.length = sz1)
    (hs : SSet σ r (.arr et sz es) r (.arr et sz es') σ') (he : es[j]? = some e) (hp : Put e off v.cells e') (he' : es' = es.set j e') (hb : HB ops i (σ.map (·.1)) [r] held) (hK : RD P n ops (listed.setIfInBounds i true) todo held ⟨fr, σ'⟩ K) : RD P n ops listed ((i, false) :: todo) held ⟨fr, σ⟩ K := by
  obtain ⟨k1, k2⟩ := hp.eq
  refine rd_turn hi (hop_store_part h hs.get he (by omega) hv hc hl ?_) (fun q hq => ?_) hb
  · refine rd_sub (fun p hp => ?_) hK
    rw [hl] at k2
    rw [← k2, ← he']
    exact hs.sub p hp
  · obtain rfl := List.mem_singleton.1 hq
    exact List.mem_map.2 ⟨_, sget_mem hs.get, rfl⟩
theorem dbs {e : TypeId} {sz by_ : Nat} {zv : Value} {len : Nat} {parts : Array (Nat × Operand)} {vs : List AV} {es : List (List AV)} (hi : ops[i]? = some ⟨some d, .buildSlice t len parts, ty, pos, af, none⟩) (i1 : Ty P t (.slice e)) (i2 : Tz P e sz by_ zv) (hv : AEvs ⟨fr, σ⟩ (parts.toList.map (·.2)) vs) (hp : parts.toList = enumF 0 (parts.toList.map (·.2))) (hlen : (len == vs.length) = true) (h0 : (decide (0 < sz) && decide (len * sz ≤ 16777216)) = true)
    (hc : (vs.all fun v => v.cells.length == sz && v.cells.all AV.cell) = true) (he : vs.map AV.cells = es) (hd : Nat.ble (d + 1) n = true) (hK : ∀ r, Fresh r σ → RD P n ops (listed.setIfInBounds i true) todo held ⟨(d, .own r 0 len) :: fr, (r, .arr e sz es) :: σ⟩ K) : RD P n ops listed ((i, false) :: todo) held ⟨fr, σ⟩ K := by
  subst he
  exact rd_new hi (hop_buildSlice' hp hv hlen h0 hc (lt_ble hd) hK)
theorem dap {e : TypeId} {sz by_ : Nat} {zv : Value} {r len len' : Nat} {es ys es' : List (List AV)} (hi : ops[i]? = some ⟨some d, .call { callee := .builtin .append, args := #[x, y], argTypes := #[t, t] }, ty, pos, af, none⟩) (i1 : Ty P t (.slice e)) (i2 : Tz P e sz by_ zv) (hz : zv.cells.size = sz) (hx : aev ⟨fr, σ⟩ x = some (.own r 0 len)) (hg : sget σ r = some (.arr e sz es)) (hlen : len = es.length) (hy : Src ⟨fr, σ⟩ y sz ys)
    (he : es ++ ys = es') (hl' : len' = len + ys.length) (hmax : len' ≤ maxLen) (hby : len' * by_ ≤ 140737488355328) (hd : Nat.ble (d + 1) n = true) (hb : HB ops i (σ.map (·.1)) [r] held)
    (hK : ∀ r', Fresh r' (sdrop [r] σ) → ∃ σ', SSet σ r (.arr e sz es) r' (.arr e sz es') σ' ∧ RD P n ops (listed.setIfInBounds i true) todo held ⟨(d, .own r' 0 len') :: fr, σ'⟩ K) : RD P n ops listed ((i, false) :: todo) held ⟨fr, σ⟩ K := by
  subst he hl'
  refine rd_turn hi (hop_append_own hz hx hg (by omega) hy hmax hby (lt_ble hd) fun r' hf => ?_) (fun q hq => ?_) hb
  · obtain ⟨σ', hs, hK⟩ := hK r' hf
    rw [hlen, List.take_length]
    refine rd_sub (fun p hp => hs.sub p hp) ?_
    rw [← hlen]
    exact hK
  · obtain rfl := List.mem_singleton.1 hq
    exact List.mem_map.2 ⟨_, sget_mem hg, rfl⟩
/-- calls -/
theorem dpu {f : FuncId} {xs : List Operand} {ats : Array TypeId} {args : List AV} {v : AV} (ts : List Nat) (hi : ops[i]? = some ⟨some d, .call { callee := .value (.func f), args := xs.toArray, argTypes := ats }, ty, pos, af, none⟩) (hf : ∀ args w, (callFunc f args).run P w = .ok (.enter f args) w) (h : SCall P f args [] (fun x σ' => x = v ∧ σ' = [])) (hd : Nat.ble (d + 1) n = true)
    (hargs : ArgsIf ⟨fr, σ⟩ true ts xs args) (hno : NoF v) (hK : RD P n ops (listed.setIfInBounds i true) todo held ⟨(d, v) :: fr, σ⟩ K) : RD P n ops listed ((i, false) :: todo) held ⟨fr, σ⟩ K := rd_new hi (hop_pure ts hf h (lt_ble hd) hargs hno hK)
theorem dcw {f : FuncId} {xs : List Operand} {ats : Array TypeId} {args : List AV} {R : AV → Sto → Prop} (σ1 : Sto) (hi : ops[i]? = some ⟨some d, .call { callee := .value (.func f), args := xs.toArray, argTypes := ats }, ty, pos, af, none⟩) (hf : ∀ args w, (callFunc f args).run P w = .ok (.enter f args) w) (h : SCall P f args σ1 R) (hd : Nat.ble (d + 1) n = true)
    (hargs : ArgsLe ⟨fr, σ⟩ xs args) (hsub : ∀ p ∈ σ1, p ∈ σ) (hb : HB ops i (σ.map (·.1)) (σ1.map (·.1)) held) (hK : ∀ x σ', R x σ' → (∀ p ∈ σ', (∃ q ∈ σ1, q.1 = p.1) ∨ Fresh p.1 σ) → RD P n ops (listed.setIfInBounds i true) todo held ⟨(d, x) :: fr, σ' ++ sdrop (σ1.map (·.1)) σ⟩ K) :
    RD P n ops listed ((i, false) :: todo) held ⟨fr, σ⟩ K := rd_turn hi (hop_call hf h (lt_ble hd) hargs hsub hK) (fun r hr => by obtain ⟨p, hp, rfl⟩ := List.mem_map.1 hr; exact List.mem_map.2 ⟨p, hsub p hp, rfl⟩) hb
end

/-! ### a field that holds nothing yet -/
theorem SR.retold {M : Mp} {F : Nat → Prop} {N : Nat} {w : World} {σ σ' : Sto} (h : SR M F N w σ) (hs : ∀ p ∈ σ', (∃ x, (p.1, x) ∈ σ) ∧ ER M F w p.1 p.2) : SR M F N w σ' := by
  refine ⟨fun p hp => (hs p hp).2, fun p hp q hq g h1 h2 => ?_, ?_, h.flt, h.fresh⟩
  · obtain ⟨x, hx⟩ := (hs p hp).1
    obtain ⟨y, hy⟩ := (hs q hq).1
    exact h.inj (p.1, x) hx (q.1, y) hy g h1 h2
  · rintro g ⟨p, hp, hg⟩
    obtain ⟨x, hx⟩ := (hs p hp).1
    exact h.nof g ⟨_, hx, hg⟩
theorem Ext.retold {M : Mp} {F : Nat → Prop} {N : Nat} {w : World} {σ σ' : Sto} (hs : ∀ p ∈ σ', ∃ x, (p.1, x) ∈ σ) : Ext M F N w σ M F N w σ' := by
  refine ⟨fun _ _ h => h, fun _ h => h, Nat.le_refl _, Only.refl _ _, ?_, fun _ h => .inl h, ?_⟩
  · rintro g ⟨p, hp, hg⟩ _
    obtain ⟨x, hx⟩ := hs p hp
    exact ⟨_, hx, hg⟩
  · intro p hp _
    obtain ⟨x, hx⟩ := hs p hp
    exact ⟨_, hx, rfl⟩
theorem sw_virt_box {P : Program} {n : Nat} {ks : List Nat} {s : ASt} {c : Code} {Q : Exit → ASt → Prop} (r off : Nat) (e : TypeId) (sz : Nat) (h0 : 0 < sz) {bt : TypeId} {cs : List AV} {z : Nat} {k : Rk} (hg : sget s.σ r = some (.box bt cs)) (hx : cs[off]? = some (.ro z [] k)) (hk : k ≠ .any)
    (h : ∀ q, Fresh q s.σ → ∃ σ', SSet s.σ r (.box bt cs) r (.box bt (cs.set off (.own q 0 0))) σ' ∧ SW P n ks c ⟨s.fr, (q, .arr e sz []) :: σ'⟩ Q) : SW P n ks c s Q := by
  intro M F N a w hr
  have hE : ER (addM M N .virt) F w N (.arr e sz []) := ⟨h0, fun x hx => by simp at hx, .inl ⟨addM_new _, rfl⟩⟩
  obtain ⟨r1, e1, n1⟩ := hr.new_ (w' := w) .virt (.arr e sz []) (fun _ _ => rfl) ⟨rfl, rfl, rfl⟩ (Nat.le_refl _) (fun g hg => by simp [blkOf, addM_new] at hg) hE
  obtain ⟨σ', hs, hK⟩ := h N n1
  have hmem : ∀ p ∈ (N, Ent.arr e sz []) :: σ', ∃ x, (p.1, x) ∈ (N, Ent.arr e sz []) :: s.σ := by
    intro p hp
    rcases List.mem_cons.1 hp with rfl | hp
    · exact ⟨_, List.mem_cons_self⟩
    · rcases List.mem_cons.1 (hs.sub p hp) with rfl | hp
      · exact ⟨_, List.mem_cons_of_mem _ (sget_mem hg)⟩
      · exact ⟨_, List.mem_cons_of_mem _ (mem_sdrop hp).1⟩
  have hr2 : Rel (addM M N .virt) F (N + 1) n ⟨s.fr, (N, .arr e sz []) :: σ'⟩ a w := by
    refine ⟨r1.size, r1.defers, r1.fr, r1.st.retold fun p hp => ⟨hmem p hp, ?_⟩⟩
    rcases List.mem_cons.1 hp with rfl | hp
    · exact hE
    · rcases List.mem_cons.1 (hs.sub p hp) with rfl | hp
      · obtain ⟨g, vs, h1, h2, h3, h4⟩ := r1.st.ent _ (List.mem_cons_of_mem _ (sget_mem hg))
        refine ⟨g, vs, by simpa using h1, h2, by simpa using h3, fun j b u hj hu => ?_⟩
        by_cases hjo : off = j
        · subst hjo
          have hlt : off < cs.length := (List.getElem?_eq_some_iff.1 hx).1
          rw [List.getElem?_set_self hlt] at hj
          obtain rfl := Option.some.inj hj
          have hv := h4 off _ u hx hu
          cases hv with
          | @ro _ _ b o _ cap us hb hs hc hrr hle hm hf hn =>
            cases k with
            | nil => exact absurd rfl hn
            | full => have := hf rfl; simp at this; subst this; exact .own0
            | any => exact absurd rfl hk
          | ro0 hm hA hf hn =>
            cases k with
            | nil => obtain rfl := hn rfl; obtain rfl := hA rfl; exact .own0
            | full => obtain rfl := hf rfl; exact .own0
            | any => exact absurd rfl hk
        · rw [List.getElem?_set_ne hjo] at hj
          exact h4 j b u hj hu
      · exact r1.st.ent p (List.mem_cons_of_mem _ (mem_sdrop hp).1)
  refine wp_mono (hK _ F _ a w hr2) ?_
  rintro e' a' w' ⟨M', F', N', s2, h1, h2, h3⟩
  exact ⟨M', F', N', s2, h1, (e1.trans (Ext.retold hmem)).trans h2, h3⟩

/-! ### control -/
section
variable {P : Program} {n : Nat} {ks : List Nat} {s : ASt} {Q : Exit → ASt → Prop}
theorem cs {x y : Code} (h : SW P n ks x s (AThen (fun s' => SW P n ks y s' Q) Q)) : SW P n ks (.seq x y) s Q := sw_seq h
theorem cb {id : Nat} {c : Code} (h : SW P n ks c s (ABlock id Q)) : SW P n ks (.block id c) s Q := sw_block h
theorem ck (h : Q .normal s) : SW P n ks .skip s Q := sw_skip h
theorem cr (h : Q .ret s) : SW P n ks .ret s Q := sw_ret h
theorem cx {id : Nat} (h : Q (.exit id) s) : SW P n ks (.exit id) s Q := sw_exit h
/-- a loop: its states st b, b of ok, and a number ms that falls -/
theorem lp {β : Type} {c : Code} (st : β → ASt) (ok : β → Prop) (ms : β → Nat) (b0 : β) (h0 : SGo s (st b0)) (hok : ok b0) (round : ∀ b, ok b → SW P n ks c (st b) (AThen (fun s2 => ∃ b', ok b' ∧ ms b' < ms b ∧ SGo s2 (st b')) Q)) : SW P n ks (.loop c) s Q :=
  sw_loop (fun m s => ∃ b, ok b ∧ ms b = m ∧ st b = s) (ms b0) ⟨_, h0, b0, hok, rfl, rfl⟩ (by
    rintro m s' ⟨b, hb, rfl, rfl⟩
    refine sw_mono (round b hb) fun e s2 h => ?_
    cases e <;> first | exact h | (obtain ⟨b', h1, h2, h3⟩ := h; exact ⟨_, _, h3, h2, b', h1, rfl, rfl⟩))
theorem ct {c : Operand} {x y : Code} (hc : aev s c = some (.bool true)) (h : SW P n ks x s Q) : SW P n ks (.cond c x y) s Q := sw_cond_true hc h
theorem cf {c : Operand} {x y : Code} (hc : aev s c = some (.bool false)) (h : SW P n ks y s Q) : SW P n ks (.cond c x y) s Q := sw_cond_false hc h
end
theorem an {K : ASt → Prop} {Q : Exit → ASt → Prop} {s : ASt} (h : K s) : AThen K Q .normal s := h
theorem ae {K : ASt → Prop} {Q : Exit → ASt → Prop} {s : ASt} {i : Nat} (h : Q (.exit i) s) : AThen K Q (.exit i) s := h
theorem ar {K : ASt → Prop} {Q : Exit → ASt → Prop} {s : ASt} (h : Q .ret s) : AThen K Q .ret s := h
theorem bn {i : Nat} {Q : Exit → ASt → Prop} {s : ASt} (h : Q .normal s) : ABlock i Q .normal s := h
theorem bh {i : Nat} {Q : Exit → ASt → Prop} {s : ASt} (h : Q .normal s) : ABlock i Q (.exit i) s := ablock_hit h
theorem be {i j : Nat} {Q : Exit → ASt → Prop} {s : ASt} (hne : (j == i) = false) (h : Q (.exit j) s) : ABlock i Q (.exit j) s := ablock_e hne h
theorem br {i : Nat} {Q : Exit → ASt → Prop} {s : ASt} (h : Q .ret s) : ABlock i Q .ret s := h


end Go.Proofs.Ytjpdadobblffmaa
/-
  The symbolic layer: guarded calls, renamed rows, nil in a box. No program is named here.
-/
namespace Go.Proofs.Ytjpdadobblffmaa
open Go.RowKit Go.ChangeShapes Go.WideShapes Go.ChangeAt Go.Deep
theorem fresh_rest {e : Nat} {σ1 σ : Sto} (h : (∃ q ∈ σ1, q.1 = e) ∨ Fresh e σ) : Fresh e (sdrop (σ1.map (·.1)) σ) := by
  intro p hp
  obtain ⟨h1, h2⟩ := mem_sdrop hp
  rcases h with ⟨q, hq, rfl⟩ | h
  · exact fun e => h2 (e ▸ List.mem_map.2 ⟨q, hq, rfl⟩)
  · exact h p h1
/-- a call that makes nothing, whose guard is itself guarded -/
theorem puw {P : Program} {n : Nat} {ops : Array Oper} {rest : List Oper} {fr : Fr} {σ : Sto} {K : ASt → Prop} {ty : TypeId} {pos : String} {af : Array Edge} {f : FuncId} {d j dj : Nat} {want b c0 : Bool} {xs : List Operand} {ats : Array TypeId} {args : List AV} {v : AV} (ts : List Nat) (hj : (ops[j]?).bind (·.dst) = some dj) (hb : fget fr dj = some (.when c0 (.bool b))) (hf : ∀ args w, (callFunc f args).run P w = .ok (.enter f args) w)
    (h : (c0 && (b == want)) = true → SCall P f args [] (fun x σ' => x = v ∧ σ' = [])) (hd : Nat.ble (d + 1) n = true) (hargs : ArgsIf ⟨fr, σ⟩ (c0 && (b == want)) ts xs args) (hno : NoF v) (hK : RS P n ops rest ⟨(d, .when (c0 && (b == want)) v) :: fr, σ⟩ K) :
    RS P n ops (⟨some d, .call { callee := .value (.func f), args := xs.toArray, argTypes := ats }, ty, pos, af, some (j, want)⟩ :: rest) ⟨fr, σ⟩ K := by
  intro M F N a w hr
  refine wpList_step fun K' hK' => ?_
  cases hc : c0 with
  | false =>
    have hy : yielded ops a.tmps j = none := by
      have h0 := hr.fr dj _ hb
      cases h0 with
      | when _ h0 =>
        have h0 := h0 hc
        unfold yielded
        rw [hj]
        simp only [Option.bind_some]
        rcases hx : a.tmps[dj]? with _ | u
        · rfl
        · rw [Array.getD_eq_getD_getElem?, hx] at h0
          simp only [Option.getD_some] at h0
          subst h0
          rfl
    rw [if_neg (by simp [Region.wanted, hy])]
    exact hK' _ _ (hK M F N _ w (hr.put (lt_ble hd) (.when (fun h => by simp [hc] at h) (fun _ => rfl))))
  | true =>
    have hw := wanted_when (o := ⟨some d, .call { callee := .value (.func f), args := xs.toArray, argTypes := ats }, ty, pos, af, some (j, want)⟩) hr rfl hj hb hc
    rw [hw]
    by_cases hbw : (b == want) = true
    · rw [if_pos hbw]
      refine lent_step ts hf h (by simp [hc, hbw]) hargs hno hr rfl fun M' N' w' u hr' he _ hv => ?_
      exact hK' _ _ (wpList_mono (PostN.ext he) (hK M' F N' _ w' (hr'.put (lt_ble hd) (.when (fun _ => hv) (fun h => by rw [hc, hbw] at h; cases h)))))
    · simp only [Bool.not_eq_true] at hbw
      rw [if_neg (by rw [hbw]; simp)]
      exact hK' _ _ (hK M F N _ w (hr.put (lt_ble hd) (.when (fun h => by simp [hbw] at h) (fun _ => rfl))))
end Go.Proofs.Ytjpdadobblffmaa
/-
  The symbolic layer: bytes as a string; a slice against nil. No program is named here.
-/
namespace Go.Proofs.Ytjpdadobblffmaa
open Go.RowKit Go.ChangeShapes Go.WideShapes Go.ChangeAt Go.Deep
def encU (n : Nat) : List AV := [.int .u8 n]
def strU (bs : List Nat) : ByteArray := ⟨(bs.map UInt8.ofNat).toArray⟩
theorem strU_toList (bs : List Nat) : (strU bs).toList = bs.map UInt8.ofNat := by
  rw [Go.ByteArray.toList_eq]
  simp [strU]
theorem foldl_push (ns : List Nat) : ∀ acc : ByteArray, (ns.map Int.ofNat).foldl (fun r n => r.push (UInt8.ofNat n.toNat)) acc = ⟨acc.data ++ (ns.map UInt8.ofNat).toArray⟩ := by
  induction ns with
  | nil => intro acc; simp
  | cons n ns ih =>
    intro acc
    rw [List.map_cons, List.foldl_cons, ih]
    simp [ByteArray.push]
theorem strU_eq (ns : List Nat) : (ns.map Int.ofNat).foldl (fun r n => r.push (UInt8.ofNat n.toNat)) ByteArray.empty = strU ns := by
  rw [foldl_push]
  simp [strU, ByteArray.empty, ByteArray.emptyWithCapacity]
  rfl
theorem u8_inj {a b : Nat} (ha : a < 256) (hb : b < 256) (h : UInt8.ofNat a = UInt8.ofNat b) : a = b := by
  have := congrArg UInt8.toNat h
  simp at this
  omega
theorem strU_inj : ∀ {l m : List Nat}, (∀ x ∈ l, x < 256) → (∀ x ∈ m, x < 256) → ((strU l).toList == (strU m).toList) = decide (l = m) := by
  intro l m hl hm
  rw [strU_toList, strU_toList]
  by_cases h : l = m
  · subst h; simp
  · rw [decide_eq_false h, beq_eq_false_iff_ne]
    intro e
    apply h
    clear h
    induction l generalizing m with
    | nil => cases m <;> first | rfl | simp at e
    | cons a l ih =>
      cases m with
      | nil => simp at e
      | cons b m =>
        simp only [List.map_cons, List.cons.injEq] at e
        rw [u8_inj (hl a (by simp)) (hm b (by simp)) e.1, ih (fun x hx => hl x (by simp [hx])) (fun x hx => hm x (by simp [hx])) e.2]
section
variable {P : Program} {ty : TypeId} {s : ASt} {c : Bool} {t t' e : TypeId} {x y : Operand}
theorem run_bytes_str {w : World} [Ty P t (.slice e)] [Ty P e (.int .u8)] [Ty P t' .string] {ρ : Operand → Value} {o : Oper} (ho : o.op = .convert t t' x) {A : Option Addr} {cap : Nat} {bs : List Nat} (hx : ρ x = .slice A bs.length cap) (hn : A = none → bs = [])
    (hc : ∀ p, A = some p → ∀ (j : Nat) (n : Nat), bs[j]? = some n → w.cell? (p.add j) = some (.int .u8 n)) : (execOp ρ o).run P w = .ok (.value (.string (strU bs))) w := by
  have h1 : (Conv.bytesToString (.slice A bs.length cap)).run P w = .ok (.string (strU bs)) w := by
    cases A with
    | none =>
      obtain rfl := hn rfl
      simp [Conv.bytesToString, strU, ByteArray.empty, ByteArray.emptyWithCapacity]
      rfl
    | some p =>
      have hl := run_loadCells_list (P := P) (w := w) p ((bs.map Int.ofNat).map (Value.int .u8)) (fun j v hj => by
        rw [List.getElem?_map, List.getElem?_map, Option.map_map] at hj
        obtain ⟨n, hn, rfl⟩ := Option.map_eq_some_iff.1 hj
        exact hc p rfl j n hn)
      rw [List.length_map, List.length_map] at hl
      rw [run_bytesToString w p bs.length cap (bs.map Int.ofNat) hl, strU_eq]
  simp only [execOp, ho, hx, Sem.run_bind, run_convert_bytes_string w t t' e A bs.length cap (Ty.und (P := P) (t := t)) (Ty.und (P := P) (t := e)) (Ty.und (P := P) (t := t')), h1, Result.andThen_ok, Sem.run_pure]
theorem lop_bytes_ro [Ty P t (.slice e)] [Ty P e (.int .u8)] [Ty P t' .string] {bs : List Nat} {k : Rk} (h : Ev s c x (.ro 1 (bs.map encU) k)) : Lop P (.convert t t' x) ty s c (.str (strU bs)) [] := by
  refine ⟨fun r hr => by simp at hr, fun M F N n a w hr hc => ⟨_, .str _, fun w' o ho _ hsame => ?_⟩⟩
  have e1 := h.vr hr hc
  generalize hu : a.eval x = u at e1
  generalize hes : bs.map encU = es at e1
  cases e1 with
  | @ro _ _ b o' _ cap us hb hs hcc hrr hle hm hf hn =>
    subst hes
    refine run_bytes_str (e := e) ho (by rw [hu, List.length_map]) (fun h => by cases h) (fun p hp j n hj => ?_)
    cases hp
    have h1 := hcc j (encU n) 0 (.int .u8 n) (by rw [List.getElem?_map, hj]; rfl) rfl
    have h2 := hrr j (encU n) 0 (.int .u8 n) (by rw [List.getElem?_map, hj]; rfl) rfl
    rw [Addr.add_lit, World.cell?_of_block (w := w) (w' := w') (hsame b (.inl hb))]
    rw [Nat.mul_one, Nat.add_zero] at h1
    rw [h1]
    generalize us j 0 = q at h2
    cases h2
    rfl
  | @ro0 _ _ A cap hm hA hf hn =>
    have : bs = [] := by simpa using hes
    subst this
    exact run_bytes_str (e := e) ho (A := A) (cap := cap) hu (fun _ => rfl) (fun p _ j n hj => by simp at hj)
theorem lop_bytes_own [Ty P t (.slice e)] [Ty P e (.int .u8)] [Ty P t' .string] {bs bs' : List Nat} {r off len : Nat} {et : TypeId} (h : Ev s c x (.own r off len)) (hg : sget s.σ r = some (.arr et 1 (bs.map encU))) (hle : off + len ≤ bs.length) (hbs : (bs.drop off).take len = bs') : Lop P (.convert t t' x) ty s c (.str (strU bs')) [r] := by
  subst hbs
  refine ⟨fun q hq => ⟨_, sget_mem hg, (List.mem_singleton.1 hq).symm⟩, fun M F N n a w hr hc => ⟨_, .str _, fun w' o ho _ hsame => ?_⟩⟩
  have e1 := h.vr hr hc
  have hl : ((bs.drop off).take len).length = len := by simp; omega
  generalize hu : a.eval x = u at e1
  obtain ⟨h0, hrows, h3⟩ := hr.st.ent _ (sget_mem hg)
  cases e1 with
  | own hM hle' hm =>
    rcases h3 with ⟨hv', _⟩ | ⟨g, cc, vs, hM', hcl, hsz, hlc, hmax, hvr⟩
    · rw [hM] at hv'; cases hv'
    · have hg' := hM'.symm.trans hM
      simp only [Option.some.injEq, Blk'.row.injEq] at hg'
      obtain ⟨q1, q2, q3⟩ := hg'
      subst q1
      subst q2
      subst q3
      refine run_bytes_str (e := e) ho (by rw [hu, hl]) (fun h => by cases h) (fun p hp j n hj => ?_)
      cases hp
      rw [Addr.add_lit, World.cell?_of_block (w := w) (w' := w') (hsame g (.inr ⟨r, by simp, by simp [blkOf, hM]⟩)), hcl.cell]
      have hj2 : bs[off + j]? = some n := by
        rw [List.getElem?_take] at hj
        split at hj
        · rwa [List.getElem?_drop] at hj
        · cases hj
      have hjl := (List.getElem?_eq_some_iff.1 hj2).1
      rw [List.length_map] at hlc
      have hlt : off * 1 + j < vs.size := by omega
      have h1 := hvr (off + j) (encU n) 0 (.int .u8 n) vs[off * 1 + j] (by rw [List.getElem?_map, hj2]; rfl) rfl (by rw [show (off + j) * 1 + 0 = off * 1 + j by omega]; exact Array.getElem?_eq_getElem hlt)
      rw [Array.getElem?_eq_getElem hlt]
      generalize vs[off * 1 + j] = q at h1
      cases h1
      rfl
  | own0 =>
    refine run_bytes_str (e := e) ho (by rw [hu, hl]) (fun _ => by simp) (fun p _ j n hj => by simp at hj)
end
end Go.Proofs.Ytjpdadobblffmaa
/-
  The symbolic layer: two loud operations in either order; arrays: a cell at any place, parts of them as slices. No program is named here.
-/
namespace Go.Proofs.Ytjpdadobblffmaa
open Go.RowKit Go.ChangeShapes Go.WideShapes Go.ChangeAt Go.Deep
theorem dly {P : Program} {n : Nat} {ops : Array Oper} {fr : Fr} {σ : Sto} {K : ASt → Prop} {op : Op} {ty : TypeId} {pos : String} {af : Array Edge} {listed : Array Bool} {todo : List (Nat × Bool)} {held : List (Nat × List Nat)} {i d j dj : Nat} {want : Bool} {v : AV} {rs : List Nat} (hi : ops[i]? = some ⟨some d, op, ty, pos, af, some (j, want)⟩) (hj : (ops[j]?).bind (·.dst) = some dj) (hb : fget fr dj = some (.bool want)) (h : Lop P op ty ⟨fr, σ⟩ true v rs) (hd : Nat.ble (d + 1) n = true)
    (hK : RD P n ops (listed.setIfInBounds i true) todo ((i, rs) :: held) ⟨(d, v) :: fr, σ⟩ K) : RD P n ops listed ((i, true) :: todo) held ⟨fr, σ⟩ K := rd_guard_yes hi hj hb h (lt_ble hd) hK
/-- a frame without slot t -/
inductive FDel (t : Nat) : Fr → Fr → Prop
  | nil : FDel t [] []
  | hit {x : AV} {l l' : Fr} (h : FDel t l l') : FDel t ((t, x) :: l) l'
  | miss {i : Nat} {x : AV} {l l' : Fr} (hne : (i == t) = false) (h : FDel t l l') : FDel t ((i, x) :: l) ((i, x) :: l')
theorem FDel.get {t : Nat} {l l' : Fr} (h : FDel t l l') : ∀ i x, fget l' i = some x → i ≠ t ∧ fget l i = some x := by
  induction h with
  | nil => intro i x h; simp [fget] at h
  | hit _ ih =>
    intro i x h
    obtain ⟨h1, h2⟩ := ih i x h
    exact ⟨h1, by simp only [fget]; rw [if_neg h1]; exact h2⟩
  | @miss j y l l' hne _ ih =>
    intro i x h
    simp only [fget] at h ⊢
    split at h
    · next e => subst e; exact ⟨by simpa using hne, by rw [if_pos rfl]; exact h⟩
    · next e => obtain ⟨h1, h2⟩ := ih i x h; exact ⟨h1, by rw [if_neg e]; exact h2⟩
/-- 'a or b' as a switch lays it: the second test where the first does not hold -/
theorem sw_orr {P : Program} {n : Nat} {ks : List Nat} {fr fr0 : Fr} {σ : Sto} {t : Nat} {b c : Bool} {y rest : Code} {Q Q' : Exit → ASt → Prop} (hx : fget fr t = some (.bool b)) (hd : FDel t fr fr0) (h2 : b = false → SW P n ks y ⟨fr, σ⟩ (AThen (fun s2 => SGo s2 ⟨(t, .bool c) :: fr0, σ⟩) Q')) (h : SW P n ks rest ⟨(t, .bool (b || c)) :: fr0, σ⟩ Q) :
    SW P n ks (.cond (.tmp t) .skip y) ⟨fr, σ⟩ (AThen (fun s' => SW P n ks rest s' Q) Q') := by
  have key : ∀ (fr' : Fr) (x : Bool), fget fr' t = some (.bool x) → x = (b || c) → (∀ i z, fget fr0 i = some z → fget fr' i = some z) → SGo ⟨fr', σ⟩ ⟨(t, .bool (b || c)) :: fr0, σ⟩ := fun fr' x hxx he ho => SGo.of_le (fun j z hj => by
    simp only [fget] at hj ⊢
    split at hj
    · next e => subst e; obtain rfl := Option.some.inj hj; exact ⟨_, hxx, by rw [he]; exact VLe.refl _⟩
    · next e => exact ⟨z, ho j z hj, VLe.refl _⟩) (fun _ h => h)
  refine sw_cond (b := b) hx (fun hb => ?_) (fun hb => ?_)
  · exact sw_skip (sw_go (key fr b hx (by rw [hb]; rfl) (fun i z hz => (hd.get i z hz).2)) h)
  · refine sw_mono (h2 hb) fun e s2 hs => ?_
    cases e <;> first | exact hs | skip
    refine sw_go (SGo.trans hs (key _ c (by simp [fget]) (by rw [hb]; rfl) (fun i z hz => by
      have := (hd.get i z hz).1
      simp only [fget]
      rw [if_neg this]; exact hz))) h
/-- the same, inside such a test -/
theorem sw_orq {P : Program} {n : Nat} {ks : List Nat} {fr fr0 : Fr} {σ : Sto} {t : Nat} {b c : Bool} {y : Code} {s0 : ASt} {Q' : Exit → ASt → Prop} (hx : fget fr t = some (.bool b)) (hd : FDel t fr fr0) (h2 : b = false → SW P n ks y ⟨fr, σ⟩ (AThen (fun s2 => SGo s2 ⟨(t, .bool c) :: fr0, σ⟩) Q')) (h : SGo ⟨(t, .bool (b || c)) :: fr0, σ⟩ s0) :
    SW P n ks (.cond (.tmp t) .skip y) ⟨fr, σ⟩ (AThen (fun s2 => SGo s2 s0) Q') := by
  refine sw_cond (b := b) hx (fun hb => ?_) (fun hb => ?_)
  · refine sw_skip (SGo.trans (s' := ⟨(t, .bool (b || c)) :: fr0, σ⟩) (SGo.of_le (fun j z hj => ?_) (fun _ h => h)) h)
    simp only [fget] at hj
    split at hj
    · next e => subst e; obtain rfl := Option.some.inj hj; exact ⟨_, hx, by rw [hb]; exact VLe.refl _⟩
    · next e => exact ⟨z, (hd.get j z hj).2, VLe.refl _⟩
  · refine sw_mono (h2 hb) fun e s2 hs => ?_
    cases e <;> first | exact hs | skip
    refine SGo.trans hs (SGo.trans (s' := ⟨(t, .bool (b || c)) :: fr0, σ⟩) (SGo.of_le (fun j z hj => ?_) (fun _ h => h)) h)
    simp only [fget] at hj ⊢
    split at hj
    · next e => subst e; obtain rfl := Option.some.inj hj; exact ⟨_, by rw [if_pos rfl], by rw [hb]; exact VLe.refl _⟩
    · next e => exact ⟨z, by rw [if_neg e]; exact hj, VLe.refl _⟩
end Go.Proofs.Ytjpdadobblffmaa
/-
  Labels and jumps back to them.
-/
namespace Go.Proofs.Ytjpdadobblffmaa
open Go.RowKit Go.ChangeShapes Go.WideShapes Go.ChangeAt Go.Deep
theorem least_of {p : Nat → Prop} : ∀ (n m : Nat), m ≤ n → p m → ∃ k, p k ∧ ∀ j, p j → k ≤ j
  | 0, m, hm, h => ⟨0, by rwa [show m = 0 by omega] at h, fun j _ => Nat.zero_le _⟩
  | n + 1, m, hm, h => by
    by_cases hc : ∃ j, j ≤ n ∧ p j
    · obtain ⟨j, h1, h2⟩ := hc; exact least_of n j h1 h2
    · refine ⟨m, h, fun j hj => ?_⟩
      by_cases hjm : m ≤ j
      · exact hjm
      · exact absurd ⟨j, by omega, hj⟩ hc
theorem wp_scope_ghost {P : Program} {a : Act} {w : World} {Q : Exit → Act → World → Prop} {c rest : Code} (l : Nat) (J : Nat → Act → World → Prop) (hf : findLabel c l = some rest)
    (first : c.wp P (Exit.jump l (fun a w => ∃ m, J m a w) Q) a w)
    (pass : ∀ m a w, J m a w → rest.wp P (Exit.jump l (fun a' w' => ∃ m', m' < m ∧ J m' a' w') Q) a w) : (Code.scope c).wp P Q a w := by
  have hm : ∀ a w, ∃ k, ∀ m, J m a w → J k a w ∧ k ≤ m := by
    intro a w
    by_cases h : ∃ m, J m a w
    · obtain ⟨m, h⟩ := h
      obtain ⟨k, h1, h2⟩ := least_of (p := fun m => J m a w) m m (Nat.le_refl _) h
      exact ⟨k, fun j hj => ⟨h1, h2 j hj⟩⟩
    · exact ⟨0, fun m hj => absurd ⟨m, hj⟩ h⟩
  refine wp_scope_jumps l (fun a w => ∃ m, J m a w) (fun a w => (hm a w).choose) hf first ?_
  rintro a w ⟨m, h⟩
  obtain ⟨h1, -⟩ := (hm a w).choose_spec m h
  refine wp_mono (pass _ a w h1) ?_
  intro e a' w' hq
  cases e <;> first | exact hq | skip
  obtain ⟨h2, m', h3, h4⟩ := hq
  exact ⟨h2, ⟨m', h4⟩, Nat.lt_of_le_of_lt ((hm a' w').choose_spec m' h4).2 h3⟩
/-- by a goto to l: J; else as Q -/
def AJump (l : Nat) (J : ASt → Prop) (Q : Exit → ASt → Prop) : Exit → ASt → Prop
  | .goto l', s => l' = l ∧ J s
  | e, s => Q e s
section
variable {P : Program} {n : Nat} {ks : List Nat} {s : ASt} {Q : Exit → ASt → Prop}
theorem scj {β : Type} {c body : Code} (l : Nat) (hf : findLabel c l = some (.seq .skip body)) (st : β → ASt) (ok : β → Prop) (ms : β → Nat)
    (pass : ∀ b, ok b → SW P n ks body (st b) (AJump l (fun s2 => ∃ b', ok b' ∧ ms b' < ms b ∧ SGo s2 (st b')) Q))
    (first : (∀ b s', ok b → SGo s' (st b) → SW P n ks (.seq (.label l) body) s' (AJump l (fun s2 => ∃ b', ok b' ∧ SGo s2 (st b')) Q)) → SW P n ks c s (AJump l (fun s2 => ∃ b', ok b' ∧ SGo s2 (st b')) Q)) : SW P n ks (.scope c) s Q := by
  have hfirst := first fun b s' hb hgo => sw_go hgo (sw_seq (sw_label (sw_mono (pass b hb) fun e s2 h => by
    cases e <;> first | exact h | skip
    obtain ⟨h1, b', h2, -, h3⟩ := h
    exact ⟨h1, b', h2, h3⟩)))
  intro M F N a w hr
  refine wp_scope_ghost l (fun m a' w' => ∃ M' F' N' b, ok b ∧ ms b = m ∧ Rel M' F' N' n (st b) a' w' ∧ Ext M F N w s.σ M' F' N' w' (st b).σ) hf ?_ ?_
  · refine wp_mono (hfirst M F N a w hr) ?_
    rintro e a' w' ⟨M', F', N', s', h1, h2, h3⟩
    cases e <;> first | exact ⟨M', F', N', s', h1, h2, h3⟩ | skip
    obtain ⟨h3, b, h4, h5⟩ := h3
    obtain ⟨M2, F2, N2, r2, e2⟩ := h5 M' F' N' n a' w' h1
    exact ⟨h3, _, M2, F2, N2, b, h4, rfl, r2, h2.trans e2⟩
  · rintro m a' w' ⟨M1, F1, N1, b, hb, rfl, r1, e1⟩
    refine wp_seq (wp_skip ?_)
    refine wp_mono (pass b hb M1 F1 N1 a' w' r1) ?_
    rintro e a2 w2 ⟨M', F', N', s', h1, h2, h3⟩
    cases e <;> first | exact ⟨M', F', N', s', h1, e1.trans h2, h3⟩ | skip
    obtain ⟨h3, b', h4, h6, h5⟩ := h3
    obtain ⟨M2, F2, N2, r2, e2⟩ := h5 M' F' N' n a2 w2 h1
    exact ⟨h3, _, h6, M2, F2, N2, b', h4, rfl, r2, e1.trans (h2.trans e2)⟩
theorem cg {l : Nat} (h : Q (.goto l) s) : SW P n ks (.goto l) s Q := sw_goto h
end
theorem ag {K : ASt → Prop} {Q : Exit → ASt → Prop} {s : ASt} {i : Nat} (h : Q (.goto i) s) : AThen K Q (.goto i) s := h
theorem bg {i j : Nat} {Q : Exit → ASt → Prop} {s : ASt} (h : Q (.goto j) s) : ABlock i Q (.goto j) s := h
theorem jg {J : ASt → Prop} {Q : Exit → ASt → Prop} {s : ASt} {l : Nat} (h : J s) : AJump l J Q (.goto l) s := ⟨rfl, h⟩
theorem jn {J : ASt → Prop} {Q : Exit → ASt → Prop} {s : ASt} {l : Nat} (h : Q .normal s) : AJump l J Q .normal s := h
theorem jr {J : ASt → Prop} {Q : Exit → ASt → Prop} {s : ASt} {l : Nat} (h : Q .ret s) : AJump l J Q .ret s := h
theorem je {J : ASt → Prop} {Q : Exit → ASt → Prop} {s : ASt} {l i : Nat} (h : Q (.exit i) s) : AJump l J Q (.exit i) s := h
/-- a call whose first argument is nil, told as if that were an own row that holds nothing -/
theorem scall_nil {P : Program} {f : FuncId} {e : TypeId} {sz z : Nat} {args : List AV} {σ : Sto} {R : AV → Sto → Prop} (h0 : 0 < sz) (h : ∀ q, Fresh q σ → SCall P f (.own q 0 0 :: args) ((q, .arr e sz []) :: σ) R) : SCall P f (.ro z [] .nil :: args) σ R := by
  intro M F N w vs hl hv hs
  have hr : Rel M F N 0 ⟨[], σ⟩ ⟨#[], []⟩ w := ⟨rfl, rfl, fun i x hi => by simp [fget] at hi, hs⟩
  have hE : ER (addM M N .virt) F w N (.arr e sz []) := ⟨h0, fun x hx => by simp at hx, .inl ⟨addM_new _, rfl⟩⟩
  obtain ⟨r1, e1, n1⟩ := hr.new_ (w' := w) .virt (.arr e sz []) (fun _ _ => rfl) ⟨rfl, rfl, rfl⟩ (Nat.le_refl _) (fun g hg => by simp [blkOf, addM_new] at hg) hE
  refine (h N n1 (addM M N .virt) F (N + 1) w vs (by simpa using hl) ?_ r1.st).mono ?_
  · intro i x v hx hvv
    cases i with
    | zero =>
      obtain rfl : AV.own N 0 0 = x := by simpa using hx
      have hv0 := hv 0 _ v rfl hvv
      cases hv0 with
      | @ro _ _ b o _ cap us hb hs hc hrr hle hm hf hn => exact absurd rfl hn
      | ro0 hm hA hf hn =>
        obtain rfl := hn rfl
        obtain rfl := hA rfl
        exact .own0
    | succ i => exact VR.mono e1.mm e1.ff (fun _ _ => rfl) (hv (i + 1) x v (by simpa using hx) hvv)
  · rintro e' w' ⟨v, x, M', F', N', σ', k1, k2, k3, k4, k5⟩
    exact ⟨v, x, M', F', N', σ', k1, e1.trans k2, k3, k4, k5⟩
section
variable {P : Program} {ty : TypeId} {s : ASt} {c : Bool} {t : TypeId} {x y : Operand}
/-- an element of an array's value, of one cell -/
theorem lop_index {e k : Nat} {d : TypeDesc} [Ty P t (.array k e)] [Ty P e d] (hd : aggD d = false) {by_ : Nat} {z : Value} [Tz P e 1 by_ z] {ki : IntKind} {m : Int} {cs : List AV} {v : AV} (h : Ev s c x (.agg cs)) (hi : Ev s c y (.int ki m)) (hb : c = true → 0 ≤ m ∧ m < k) (hv : c = true → cs[m.toNat]? = some v) : Lop P (.index t x y) ty s c v [] :=
  Lop.pure_ fun M F N n a w hr hc => by
    have e1 := h.vr hr hc
    have hv := hv hc
    have hb := hb hc
    obtain ⟨j, hi', hz, hs, _⟩ := Tz.parts P e
    generalize hu : a.eval x = u at e1
    cases e1 with
    | @agg _ vs hl hh =>
      have hlt : m.toNat < vs.size := by rw [hl]; exact (List.getElem?_eq_some_iff.1 hv).1
      refine ⟨vs[m.toNat], hh _ v _ hv (Array.getElem?_eq_getElem hlt), fun w' o ho _ => ?_⟩
      have := run_part_one (P := P) (t := e) hd (w := w') (Array.getElem?_eq_getElem hlt)
      simp [execOp, ho, hu, hi.int hr hc, Instr.index, asIntOf, run_underlying (Ty.und (P := P) (t := t)), hb, sizeOf, typeInfo, hi', hs, this]
/-- an array's value of three numbers -/
theorem lop_arr3 {e : Nat} [Ty P t (.array 3 e)] {by_ by' : Nat} {z z' : Value} [Tz P t 3 by_ z] [Tz P e 1 by' z'] {k : IntKind} {m0 m1 m2 : Int} (h3 : ∃ a0 a1 a2, z = .agg #[a0, a1, a2]) : Lop P (.build t #[(0, .const (.int k m0)), (1, .const (.int k m1)), (2, .const (.int k m2))]) ty s c (.agg [.int k m0, .int k m1, .int k m2]) [] := by
  obtain ⟨a0, a1, a2, h3⟩ := h3
  refine Lop.pure_ fun M F N n a w hr hc => ⟨.agg #[.int k m0, .int k m1, .int k m2], .agg rfl (fun j b u hj hu => ?_), fun w' o ho _ => ?_⟩
  · rcases j with _ | _ | _ | j
    · simp at hj hu; subst hj hu; exact .int _ _
    · simp at hj hu; subst hj hu; exact .int _ _
    · simp at hj hu; subst hj hu; exact .int _ _
    · simp at hj
  · obtain ⟨i, hi, hz0, hs0, _⟩ := Tz.parts P t
    obtain ⟨i', hi', hz0', hs0', _⟩ := Tz.parts P e
    simp [execOp, ho, Instr.build, zeroValue, typeInfo, hi, hz0, run_underlying (Ty.und (P := P) (t := t)), sizeOf, hi', hs0', Instr.fill, h3, Act.eval, Value.cells]
end
end Go.Proofs.Ytjpdadobblffmaa
/-
  The rows of this seat's types: what each is, how many cells and bytes it has, its zero value.
-/
namespace Go.Proofs.Ytjpdadobblffmaa
@[reducible] def ty0 := Ty.mk Try.underlying0
attribute [instance] ty0
@[reducible] def ty1 := Ty.mk Try.underlying1
attribute [instance] ty1
instance tz1 : Tz Try.prog 1 1 8 (.nilFunc) := ⟨by kernel_rfl⟩
@[reducible] def ty2 := Ty.mk Try.underlying2
attribute [instance] ty2
instance tz2 : Tz Try.prog 2 1 8 (.int .i64 0) := ⟨by kernel_rfl⟩
@[reducible] def ty3 := Ty.mk Try.underlying3
attribute [instance] ty3
instance tz3 : Tz Try.prog 3 1 8 (.int .i64 0) := ⟨by kernel_rfl⟩
@[reducible] def ty4 := Ty.mk Try.underlying4
attribute [instance] ty4
instance tz4 : Tz Try.prog 4 1 1 (.bool false) := ⟨by kernel_rfl⟩
@[reducible] def ty5 := Ty.mk Try.underlying5
attribute [instance] ty5
instance tz5 : Tz Try.prog 5 1 1 (.int .u8 0) := ⟨by kernel_rfl⟩
@[reducible] def ty6 := Ty.mk Try.underlying6
attribute [instance] ty6
instance tz6 : Tz Try.prog 6 1 1 (.int .u8 0) := ⟨by kernel_rfl⟩
@[reducible] def ty7 := Ty.mk Try.underlying7
attribute [instance] ty7
instance tz7 : Tz Try.prog 7 4 24 (.agg #[.int .i64 0, .int .i64 0, .bool false, .int .u8 0]) := ⟨by kernel_rfl⟩
instance tf7 : Tf Try.prog 7 [(0, 1), (1, 1), (2, 1), (3, 1)] := ⟨by kernel_rfl⟩
@[reducible] def ty8 := Ty.mk Try.underlying8
attribute [instance] ty8
instance tz8 : Tz Try.prog 8 4 24 (.agg #[.int .i64 0, .int .i64 0, .bool false, .int .u8 0]) := ⟨by kernel_rfl⟩
instance tf8 : Tf Try.prog 8 [(0, 1), (1, 1), (2, 1), (3, 1)] := ⟨by kernel_rfl⟩
@[reducible] def ty9 := Ty.mk Try.underlying9
attribute [instance] ty9
instance tz9 : Tz Try.prog 9 1 16 (.string .empty) := ⟨by kernel_rfl⟩
@[reducible] def ty10 := Ty.mk Try.underlying10
attribute [instance] ty10
instance tz10 : Tz Try.prog 10 1 16 (.string .empty) := ⟨by kernel_rfl⟩
@[reducible] def ty11 := Ty.mk Try.underlying11
attribute [instance] ty11
instance tz11 : Tz Try.prog 11 1 16 (.string .empty) := ⟨by kernel_rfl⟩
@[reducible] def ty12 := Ty.mk Try.underlying12
attribute [instance] ty12
instance tz12 : Tz Try.prog 12 1 8 (.int .u64 0) := ⟨by kernel_rfl⟩
@[reducible] def ty13 := Ty.mk Try.underlying13
attribute [instance] ty13
instance tz13 : Tz Try.prog 13 2 24 (.agg #[.string .empty, .int .u64 0]) := ⟨by kernel_rfl⟩
instance tf13 : Tf Try.prog 13 [(0, 1), (1, 1)] := ⟨by kernel_rfl⟩
@[reducible] def ty14 := Ty.mk Try.underlying14
attribute [instance] ty14
instance tz14 : Tz Try.prog 14 2 24 (.agg #[.string .empty, .int .u64 0]) := ⟨by kernel_rfl⟩
instance tf14 : Tf Try.prog 14 [(0, 1), (1, 1)] := ⟨by kernel_rfl⟩
@[reducible] def ty15 := Ty.mk Try.underlying15
attribute [instance] ty15
instance tz15 : Tz Try.prog 15 1 8 (.pointer none) := ⟨by kernel_rfl⟩
@[reducible] def ty16 := Ty.mk Try.underlying16
attribute [instance] ty16
instance tz16 : Tz Try.prog 16 1 8 (.pointer none) := ⟨by kernel_rfl⟩
@[reducible] def ty17 := Ty.mk Try.underlying17
attribute [instance] ty17
instance tz17 : Tz Try.prog 17 1 8 (.pointer none) := ⟨by kernel_rfl⟩
@[reducible] def ty18 := Ty.mk Try.underlying18
attribute [instance] ty18
instance tz18 : Tz Try.prog 18 1 8 (.agg #[.pointer none]) := ⟨by kernel_rfl⟩
instance tf18 : Tf Try.prog 18 [(0, 1)] := ⟨by kernel_rfl⟩
@[reducible] def ty19 := Ty.mk Try.underlying19
attribute [instance] ty19
instance tz19 : Tz Try.prog 19 1 8 (.agg #[.pointer none]) := ⟨by kernel_rfl⟩
instance tf19 : Tf Try.prog 19 [(0, 1)] := ⟨by kernel_rfl⟩
@[reducible] def ty20 := Ty.mk Try.underlying20
attribute [instance] ty20
@[reducible] def ty21 := Ty.mk Try.underlying21
attribute [instance] ty21
instance tz21 : Tz Try.prog 21 1 4 (.int .i32 0) := ⟨by kernel_rfl⟩
@[reducible] def ty22 := Ty.mk Try.underlying22
attribute [instance] ty22
instance tz22 : Tz Try.prog 22 1 24 (.slice none 0 0) := ⟨by kernel_rfl⟩
@[reducible] def ty23 := Ty.mk Try.underlying23
attribute [instance] ty23
instance tz23 : Tz Try.prog 23 1 8 (.nilFunc) := ⟨by kernel_rfl⟩
@[reducible] def ty24 := Ty.mk Try.underlying24
attribute [instance] ty24
instance tz24 : Tz Try.prog 24 1 24 (.slice none 0 0) := ⟨by kernel_rfl⟩
@[reducible] def ty25 := Ty.mk Try.underlying25
attribute [instance] ty25
instance tz25 : Tz Try.prog 25 1 8 (.map none) := ⟨by kernel_rfl⟩
@[reducible] def ty26 := Ty.mk Try.underlying26
attribute [instance] ty26
instance tz26 : Tz Try.prog 26 4 48 (.agg #[.int .i64 0, .int .i64 0, .int .i64 0, .slice none 0 0]) := ⟨by kernel_rfl⟩
instance tf26 : Tf Try.prog 26 [(0, 1), (1, 1), (2, 1), (3, 1)] := ⟨by kernel_rfl⟩
@[reducible] def ty27 := Ty.mk Try.underlying27
attribute [instance] ty27
instance tz27 : Tz Try.prog 27 4 48 (.agg #[.int .i64 0, .int .i64 0, .int .i64 0, .slice none 0 0]) := ⟨by kernel_rfl⟩
instance tf27 : Tf Try.prog 27 [(0, 1), (1, 1), (2, 1), (3, 1)] := ⟨by kernel_rfl⟩
@[reducible] def ty28 := Ty.mk Try.underlying28
attribute [instance] ty28
instance tz28 : Tz Try.prog 28 1 24 (.slice none 0 0) := ⟨by kernel_rfl⟩
@[reducible] def ty29 := Ty.mk Try.underlying29
attribute [instance] ty29
@[reducible] def ty30 := Ty.mk Try.underlying30
attribute [instance] ty30
instance tz30 : Tz Try.prog 30 1 8 (.nilFunc) := ⟨by kernel_rfl⟩
@[reducible] def ty31 := Ty.mk Try.underlying31
attribute [instance] ty31
instance tz31 : Tz Try.prog 31 3 24 (.agg #[.int .i64 0, .int .i64 0, .int .i64 0]) := ⟨by kernel_rfl⟩
instance tf31 : Tf Try.prog 31 [(0, 1), (1, 1), (2, 1)] := ⟨by kernel_rfl⟩
@[reducible] def ty32 := Ty.mk Try.underlying32
attribute [instance] ty32
instance tz32 : Tz Try.prog 32 3 24 (.agg #[.int .i64 0, .int .i64 0, .int .i64 0]) := ⟨by kernel_rfl⟩
instance tf32 : Tf Try.prog 32 [(0, 1), (1, 1), (2, 1)] := ⟨by kernel_rfl⟩
@[reducible] def ty33 := Ty.mk Try.underlying33
attribute [instance] ty33
instance tz33 : Tz Try.prog 33 1 8 (.nilFunc) := ⟨by kernel_rfl⟩
@[reducible] def ty34 := Ty.mk Try.underlying34
attribute [instance] ty34
instance tz34 : Tz Try.prog 34 1 8 (.nilFunc) := ⟨by kernel_rfl⟩
@[reducible] def ty35 := Ty.mk Try.underlying35
attribute [instance] ty35
instance tz35 : Tz Try.prog 35 1 24 (.slice none 0 0) := ⟨by kernel_rfl⟩
@[reducible] def ty36 := Ty.mk Try.underlying36
attribute [instance] ty36
instance tz36 : Tz Try.prog 36 1 8 (.nilFunc) := ⟨by kernel_rfl⟩
@[reducible] def ty37 := Ty.mk Try.underlying37
attribute [instance] ty37
instance tz37 : Tz Try.prog 37 1 8 (.int .i64 0) := ⟨by kernel_rfl⟩
@[reducible] def ty38 := Ty.mk Try.underlying38
attribute [instance] ty38
@[reducible] def ty39 := Ty.mk Try.underlying39
attribute [instance] ty39
instance tz39 : Tz Try.prog 39 1 8 (.nilFunc) := ⟨by kernel_rfl⟩
@[reducible] def ty40 := Ty.mk Try.underlying40
attribute [instance] ty40
instance tz40 : Tz Try.prog 40 1 8 (.nilFunc) := ⟨by kernel_rfl⟩
@[reducible] def ty41 := Ty.mk Try.underlying41
attribute [instance] ty41
instance tz41 : Tz Try.prog 41 1 8 (.nilFunc) := ⟨by kernel_rfl⟩
@[reducible] def ty42 := Ty.mk Try.underlying42
attribute [instance] ty42
instance tz42 : Tz Try.prog 42 1 8 (.nilFunc) := ⟨by kernel_rfl⟩
@[reducible] def ty43 := Ty.mk Try.underlying43
attribute [instance] ty43
@[reducible] def ty44 := Ty.mk Try.underlying44
attribute [instance] ty44
instance tz44 : Tz Try.prog 44 1 8 (.nilFunc) := ⟨by kernel_rfl⟩
@[reducible] def ty45 := Ty.mk Try.underlying45
attribute [instance] ty45
instance tz45 : Tz Try.prog 45 1 8 (.nilFunc) := ⟨by kernel_rfl⟩
@[reducible] def ty46 := Ty.mk Try.underlying46
attribute [instance] ty46
instance tz46 : Tz Try.prog 46 3 3 (.agg #[.int .u8 0, .int .u8 0, .int .u8 0]) := ⟨by kernel_rfl⟩
@[reducible] def ty47 := Ty.mk Try.underlying47
attribute [instance] ty47
instance tz47 : Tz Try.prog 47 1 8 (.nilFunc) := ⟨by kernel_rfl⟩
@[reducible] def ty48 := Ty.mk Try.underlying48
attribute [instance] ty48
instance tz48 : Tz Try.prog 48 1 8 (.int .u64 0) := ⟨by kernel_rfl⟩
@[reducible] def ty49 := Ty.mk Try.underlying49
attribute [instance] ty49
instance tz49 : Tz Try.prog 49 1 8 (.nilFunc) := ⟨by kernel_rfl⟩
@[reducible] def ty50 := Ty.mk Try.underlying50
attribute [instance] ty50
instance tz50 : Tz Try.prog 50 1 8 (.pointer none) := ⟨by kernel_rfl⟩
@[reducible] def ty51 := Ty.mk Try.underlying51
attribute [instance] ty51
instance tz51 : Tz Try.prog 51 3 40 (.agg #[.slice none 0 0, .int .i64 0, .int .i64 0]) := ⟨by kernel_rfl⟩
instance tf51 : Tf Try.prog 51 [(0, 1), (1, 1), (2, 1)] := ⟨by kernel_rfl⟩
@[reducible] def ty52 := Ty.mk Try.underlying52
attribute [instance] ty52
instance tz52 : Tz Try.prog 52 3 40 (.agg #[.slice none 0 0, .int .i64 0, .int .i64 0]) := ⟨by kernel_rfl⟩
instance tf52 : Tf Try.prog 52 [(0, 1), (1, 1), (2, 1)] := ⟨by kernel_rfl⟩
@[reducible] def ty53 := Ty.mk Try.underlying53
attribute [instance] ty53
instance tz53 : Tz Try.prog 53 1 8 (.nilFunc) := ⟨by kernel_rfl⟩
@[reducible] def ty54 := Ty.mk Try.underlying54
attribute [instance] ty54
instance tz54 : Tz Try.prog 54 1 8 (.nilFunc) := ⟨by kernel_rfl⟩
@[reducible] def ty55 := Ty.mk Try.underlying55
attribute [instance] ty55
instance tz55 : Tz Try.prog 55 1 8 (.nilFunc) := ⟨by kernel_rfl⟩
@[reducible] def ty56 := Ty.mk Try.underlying56
attribute [instance] ty56
instance tz56 : Tz Try.prog 56 1 8 (.nilFunc) := ⟨by kernel_rfl⟩
@[reducible] def ty57 := Ty.mk Try.underlying57
attribute [instance] ty57
@[reducible] def ty58 := Ty.mk Try.underlying58
attribute [instance] ty58
instance tz58 : Tz Try.prog 58 1 8 (.nilFunc) := ⟨by kernel_rfl⟩
@[reducible] def ty59 := Ty.mk Try.underlying59
attribute [instance] ty59
instance tz59 : Tz Try.prog 59 1 8 (.int .u64 0) := ⟨by kernel_rfl⟩
@[reducible] def ty60 := Ty.mk Try.underlying60
attribute [instance] ty60
instance tz60 : Tz Try.prog 60 1 8 (.nilFunc) := ⟨by kernel_rfl⟩
@[reducible] def ty61 := Ty.mk Try.underlying61
attribute [instance] ty61
@[reducible] def ty62 := Ty.mk Try.underlying62
attribute [instance] ty62
instance tz62 : Tz Try.prog 62 1 8 (.nilFunc) := ⟨by kernel_rfl⟩
@[reducible] def ty63 := Ty.mk Try.underlying63
attribute [instance] ty63
@[reducible] def ty64 := Ty.mk Try.underlying64
attribute [instance] ty64
instance tz64 : Tz Try.prog 64 1 8 (.nilFunc) := ⟨by kernel_rfl⟩
@[reducible] def ty65 := Ty.mk Try.underlying65
attribute [instance] ty65
@[reducible] def ty66 := Ty.mk Try.underlying66
attribute [instance] ty66
instance tz66 : Tz Try.prog 66 1 8 (.nilFunc) := ⟨by kernel_rfl⟩
@[reducible] def ty67 := Ty.mk Try.underlying67
attribute [instance] ty67
instance tz67 : Tz Try.prog 67 1 8 (.nilFunc) := ⟨by kernel_rfl⟩
@[reducible] def ty68 := Ty.mk Try.underlying68
attribute [instance] ty68
@[reducible] def ty69 := Ty.mk Try.underlying69
attribute [instance] ty69
instance tz69 : Tz Try.prog 69 1 8 (.nilFunc) := ⟨by kernel_rfl⟩
@[reducible] def ty70 := Ty.mk Try.underlying70
attribute [instance] ty70
instance tz70 : Tz Try.prog 70 1 8 (.nilFunc) := ⟨by kernel_rfl⟩
@[reducible] def ty71 := Ty.mk Try.underlying71
attribute [instance] ty71
instance tz71 : Tz Try.prog 71 1 8 (.nilFunc) := ⟨by kernel_rfl⟩
@[reducible] def ty72 := Ty.mk Try.underlying72
attribute [instance] ty72
instance tz72 : Tz Try.prog 72 4 40 (.agg #[.pointer none, .pointer none, .pointer none, .string .empty]) := ⟨by kernel_rfl⟩
instance tf72 : Tf Try.prog 72 [(0, 1), (1, 1), (2, 1), (3, 1)] := ⟨by kernel_rfl⟩
@[reducible] def ty73 := Ty.mk Try.underlying73
attribute [instance] ty73
instance tz73 : Tz Try.prog 73 4 40 (.agg #[.pointer none, .pointer none, .pointer none, .string .empty]) := ⟨by kernel_rfl⟩
instance tf73 : Tf Try.prog 73 [(0, 1), (1, 1), (2, 1), (3, 1)] := ⟨by kernel_rfl⟩
@[reducible] def ty74 := Ty.mk Try.underlying74
attribute [instance] ty74
@[reducible] def ty75 := Ty.mk Try.underlying75
attribute [instance] ty75
@[reducible] def ty76 := Ty.mk Try.underlying76
attribute [instance] ty76
@[reducible] def ty77 := Ty.mk Try.underlying77
attribute [instance] ty77
instance tz77 : Tz Try.prog 77 1 4 (.int .u32 0) := ⟨by kernel_rfl⟩
@[reducible] def ty78 := Ty.mk Try.underlying78
attribute [instance] ty78
instance tz78 : Tz Try.prog 78 1 1 (.int .u8 0) := ⟨by kernel_rfl⟩
@[reducible] def ty79 := Ty.mk Try.underlying79
attribute [instance] ty79
instance tz79 : Tz Try.prog 79 1 1 (.int .u8 0) := ⟨by kernel_rfl⟩
@[reducible] def ty80 := Ty.mk Try.underlying80
attribute [instance] ty80
instance tz80 : Tz Try.prog 80 1 8 (.nilFunc) := ⟨by kernel_rfl⟩
@[reducible] def ty81 := Ty.mk Try.underlying81
attribute [instance] ty81
instance tz81 : Tz Try.prog 81 1 8 (.pointer none) := ⟨by kernel_rfl⟩
@[reducible] def ty82 := Ty.mk Try.underlying82
attribute [instance] ty82
instance tz82 : Tz Try.prog 82 1 4 (.int .i32 0) := ⟨by kernel_rfl⟩
@[reducible] def ty83 := Ty.mk Try.underlying83
attribute [instance] ty83
instance tz83 : Tz Try.prog 83 1 4 (.int .i32 0) := ⟨by kernel_rfl⟩
@[reducible] def ty84 := Ty.mk Try.underlying84
attribute [instance] ty84
instance tz84 : Tz Try.prog 84 11 48 (.agg #[.int .u64 0, .int .u64 0, .int .u32 0, .int .u8 0, .int .u8 0, .int .u8 0, .int .u8 0, .nilFunc, .pointer none, .int .i32 0, .int .i32 0]) := ⟨by kernel_rfl⟩
instance tf84 : Tf Try.prog 84 [(0, 1), (1, 1), (2, 1), (3, 1), (4, 1), (5, 1), (6, 1), (7, 1), (8, 1), (9, 1), (10, 1)] := ⟨by kernel_rfl⟩
@[reducible] def ty85 := Ty.mk Try.underlying85
attribute [instance] ty85
instance tz85 : Tz Try.prog 85 11 48 (.agg #[.int .u64 0, .int .u64 0, .int .u32 0, .int .u8 0, .int .u8 0, .int .u8 0, .int .u8 0, .nilFunc, .pointer none, .int .i32 0, .int .i32 0]) := ⟨by kernel_rfl⟩
instance tf85 : Tf Try.prog 85 [(0, 1), (1, 1), (2, 1), (3, 1), (4, 1), (5, 1), (6, 1), (7, 1), (8, 1), (9, 1), (10, 1)] := ⟨by kernel_rfl⟩
@[reducible] def ty86 := Ty.mk Try.underlying86
attribute [instance] ty86

theorem mixed : Try.prog.follows .mixedOrders = true := by kernel_rfl
end Go.Proofs.Ytjpdadobblffmaa
/-
  The symbolic layer: what a walk does again and again, told once: each lemma's last hypothesis is shown by the steps that stand beside it, so that a walk names the lemma alone. No program is named here.
-/
namespace Go.Proofs.Ytjpdadobblffmaa
open Go.RowKit Go.ChangeShapes Go.WideShapes Go.ChangeAt Go.Deep
structure Hold (Q : Prop) : Prop where
  h : Q

/-! ### goals that close -/
theorem nqT {P : Prop} (h : P := by (first | assumption | (apply Nq.en; assumption) | omega | (simp only [Nq] at *; omega))) : P := h
theorem sgT {P : Prop} (h : P := by (repeat (first | exact sget_here | (apply sget_next; (first | assumption | (apply Nq.en; assumption) | omega | (simp only [Nq] at *; omega)))))) : P := h
theorem resT {P : Prop} (h : P := by (repeat (first | exact ResL.nil | (apply ResL.tmp; rfl) | (apply ResL.cell; rfl; infer_instance; rfl; (repeat (first | exact sget_here | (apply sget_next; (first | assumption | (apply Nq.en; assumption) | omega | (simp only [Nq] at *; omega))))); rfl) | (apply ResL.cells; rfl; infer_instance; infer_instance; rfl; (repeat (first | exact sget_here | (apply sget_next; (first | assumption | (apply Nq.en; assumption) | omega | (simp only [Nq] at *; omega))))); exact Nat.le_of_ble_eq_true rfl)))) : P := h
theorem stleT {P : Prop} (h : P := by (first | exact no_mem | exact (fun _ h => h) | (apply StLe.mem; (repeat (first | exact StLe.nil | (apply StLe.cons; (repeat (first | exact List.mem_cons_self | apply List.mem_cons_of_mem)); first | rfl | focus (congr 1; done) | focus (simp; done) | (simp; rfl))))))) : P := h
theorem argsleT {P : Prop} (h : P := by (repeat (first | exact ArgsLe.nil | (apply ArgsLe.cons; rfl; first | exact VLe.refl _ | exact VLe.when rfl | exact VLe.any | exact VLe.empty | exact VLe.of_eq (by simp))))) : P := h
theorem bortT {P : Prop} (h : P := by (
     first
      | exact Bor.refl _
      | exact Bor.le VLe.any
      | exact Bor.le VLe.empty
      | (apply bown; (repeat (
        first
         | exact List.mem_cons_self
         | apply List.mem_cons_of_mem)); (repeat (
        first
         | exact sget_here
         | (apply sget_next; (
          first
           | assumption
           | (apply Nq.en; assumption)
           | omega
           | (simp only [Nq] at *; omega))))); (
       first
        | focus (simp; done)
        | omega
        | focus (simp; omega)); (
       first
        | rfl
        | focus (simp; done)
        | focus (exact List.take_of_length_le (by
         first
          | (simp; done)
          | (simp; omega)))))
      | focus (apply bbox; (repeat (
        first
         | exact List.mem_cons_self
         | apply List.mem_cons_of_mem)); (repeat (
        first
         | exact sget_here
         | (apply sget_next; (
          first
           | assumption
           | (apply Nq.en; assumption)
           | omega
           | (simp only [Nq] at *; omega))))); rfl; rfl; (repeat (
        first
         | exact BorL.nil
         | (apply BorL.cons; (
          first
           | exact Bor.refl _
           | exact Bor.le VLe.any
           | exact Bor.le VLe.empty
           | (apply bown; (repeat (
             first
              | exact List.mem_cons_self
              | apply List.mem_cons_of_mem)); (repeat (
             first
              | exact sget_here
              | (apply sget_next; (
               first
                | assumption
                | (apply Nq.en; assumption)
                | omega
                | (simp only [Nq] at *; omega))))); (
            first
             | focus (simp; done)
             | omega); (
            first
             | rfl
             | focus (simp; done)
             | focus (exact List.take_of_length_le (by
              first
               | (simp; done)
               | (simp; omega)))))
           | focus (apply Bor.le; apply VLe.of_eq; simp; done))))); done)
      | focus (apply bagg; (repeat (
        first
         | exact BorL.nil
         | (apply BorL.cons; (
          first
           | exact Bor.refl _
           | exact Bor.le VLe.any
           | exact Bor.le VLe.empty
           | (apply bown; (repeat (
             first
              | exact List.mem_cons_self
              | apply List.mem_cons_of_mem)); (repeat (
             first
              | exact sget_here
              | (apply sget_next; (
               first
                | assumption
                | (apply Nq.en; assumption)
                | omega
                | (simp only [Nq] at *; omega))))); (
            first
             | focus (simp; done)
             | omega); (
            first
             | rfl
             | focus (simp; done)
             | focus (exact List.take_of_length_le (by
              first
               | (simp; done)
               | (simp; omega)))))
           | focus (apply Bor.le; apply VLe.of_eq; simp; done))))); done)
      | focus (apply Bor.le; apply VLe.of_eq; simp; done))) : P := h
theorem pargsT {P : Prop} (h : P := by (repeat (first | exact ArgsIf.nil | (apply ArgsIf.cons; (first | exact W rfl id | exact W rfl (fun _ => rfl) | exact E rfl); exact bortT)))) : P := h
theorem bargsT {P : Prop} (h : P := by (repeat (first | exact ArgsBor.nil | (apply ArgsBor.cons; rfl; exact bortT)))) : P := h
theorem argsT {P : Prop} (h : P := by (repeat (first | exact ArgsIf.nil | refine ArgsIf.cons (by first | exact Ev.when rfl (by first | exact id | simp) | exact Ev.here rfl) (by first | exact Bor.refl _ | exact Bor.le VLe.any | exact Bor.le VLe.empty | exact Bor.own (by simp) (by repeat (first | exact sget_here | refine sget_next (by (first | assumption | (apply Nq.en; assumption) | omega | (simp only [Nq] at *; omega))) ?_)) (by simp) | exact Bor.le (VLe.of_eq (by simp))) ?_))) : P := h
theorem nofT {P : Prop} (h : P := by (repeat (first | exact NoF.int | exact NoF.bool | exact NoF.nilp | exact NoF.nil | exact NoF.own | exact NoF.ptr | exact NoF.str | exact nofl_nil | apply NoF.tup | apply NoF.agg | apply nofl_cons))) : P := h
theorem hbtT {P : Prop} (h : P := by (repeat (first | exact HB.nil | apply HB.none | (apply HB.ok; focus (simp only [List.mem_cons, List.not_mem_nil, or_false, List.map_cons, List.map_nil, forall_eq_or_imp, forall_eq, true_or, or_true, true_and, and_true, not_false_eq_true, not_or]; (repeat' (first | apply And.intro | (first | assumption | (apply Nq.en; assumption) | omega | (simp only [Nq] at *; omega)))); done)) | (apply HB.waits; kernel_rfl)))) : P := h
theorem atT {P : Prop} (h : P := by (first | rfl | exact get_map (by assumption) | assumption)) : P := h
theorem putT_ {P : Prop} (h : P := by (repeat (first | exact Put.done | apply Put.put | apply Put.skip))) : P := h
theorem sputT {P : Prop} (h : P := by (repeat (first | (apply SPut.here; (repeat (first | exact Put.done | apply Put.put | apply Put.skip)); (repeat (first | exact Fresh.nil | (apply Fresh.cons; (first | assumption | (apply Nq.en; assumption) | omega | (simp only [Nq] at *; omega)))))) | (apply SPut.next; (first | assumption | (apply Nq.en; assumption) | omega | (simp only [Nq] at *; omega)))))) : P := h
theorem ssetT {P : Prop} (h : P := by (repeat (first | (apply SSet.here; (repeat (first | exact Fresh.nil | (apply Fresh.cons; (first | assumption | (apply Nq.en; assumption) | omega | (simp only [Nq] at *; omega)))))) | (apply SSet.next; (first | assumption | (apply Nq.en; assumption) | omega | (simp only [Nq] at *; omega)))))) : P := h
theorem sdelT {P : Prop} (h : P := by (repeat (first | (apply SDel.here; (repeat (first | exact Fresh.nil | (apply Fresh.cons; (first | assumption | (apply Nq.en; assumption) | omega | (simp only [Nq] at *; omega)))))) | (apply SDel.next; (first | assumption | (apply Nq.en; assumption) | omega | (simp only [Nq] at *; omega)))))) : P := h
theorem aevtT {P : Prop} (h : P := by (repeat (first | exact AEvs.nil | (apply AEvs.cons; rfl)))) : P := h
theorem zcT {P : Prop} (h : P := by (first | (simp only [Value.cells, AV.cells, List.map_cons, List.map_nil, ofConst, ofCell]; rfl) | rfl)) : P := h
theorem nflT {P : Prop} (h : P := by (first | (simp (disch := (first | (simp only [List.mem_cons, List.not_mem_nil, true_or, or_true, or_false]; done) | (focus (simp only [List.mem_cons, List.not_mem_nil, or_false, not_or]; (repeat' (first | apply And.intro | (first | assumption | (apply Nq.en; assumption) | omega | (simp only [Nq] at *; omega)))); done)) | omega)) only [↓put_σ, ↓mk_σ, AV.cells, sset, sdrop_none, sdrop_nil, sdrop_in, sdrop_out, List.nil_append, List.cons_append, List.append_nil, List.map_nil, List.map_cons, List.take_succ_cons, List.take_zero, List.drop_succ_cons, List.drop_zero, take_len', take_map_len, Nat.zero_add, Nat.add_zero, ofCell, ofConst]; rfl) | rfl)) : P := h
theorem sgoT {P : Prop} (h : P := by (refine sgo_st ?_ ?_ <;> (repeat (first | exact FrLe.nil | (apply FrLe.cons; rfl; first | exact VLe.refl _ | exact VLe.any | exact VLe.empty | exact VLe.of_eq (by simp) | exact VLe.of_eq (by congr 1; omega)) | exact StLe.nil | exact StLe.refl _ | (apply StLe.cons; (repeat (first | exact List.mem_cons_self | apply List.mem_cons_of_mem)); first | rfl | focus (congr 1; done) | focus (simp; done) | (simp; rfl)))))) : P := h
theorem keepT {P : Prop} (h : P := by (repeat (first | (apply KeepIs.take; rfl) | (apply KeepIs.skip; rfl) | exact KeepIs.nil))) : P := h
theorem fdelT {P : Prop} (h : P := by (repeat (first | exact FDel.nil | apply FDel.hit | apply FDel.miss rfl))) : P := h

/-! ### goals that turn into one other -/
theorem ctlT {P Q : Prop} (k : Q) (h : Hold Q → P := by intro k; (repeat (first | refine cs ?_ | refine cb ?_ | refine ck ?_ | refine cx ?_ | refine cr ?_ | refine an ?_ | refine ae ?_ | refine ar ?_ | refine bn ?_ | refine bh ?_ | refine be rfl ?_ | refine br ?_ | refine ct rfl ?_ | refine cf rfl ?_)); exact k.h) : P := h ⟨k⟩
theorem ctgT {P Q : Prop} (k : Q) (h : Hold Q → P := by intro k; (repeat (first | refine cs ?_ | refine cb ?_ | refine ck ?_ | refine cx ?_ | refine cr ?_ | refine an ?_ | refine ae ?_ | refine ar ?_ | refine bn ?_ | refine bh ?_ | refine be rfl ?_ | refine br ?_ | refine ct rfl ?_ | refine cf rfl ?_ | refine cg ?_ | refine ag ?_ | refine bg ?_ | refine jg ?_ | refine jn ?_ | refine jr ?_ | refine je ?_)); exact k.h) : P := h ⟨k⟩
theorem rgT {P Q : Prop} (k : Q) (h : Hold Q → P := by intro k; (first | refine sw_seq_region ?_ | refine sw_region ?_); exact k.h) : P := h ⟨k⟩
theorem leT {P Q : Prop} (k : Q) (h : Hold Q → P := by intro k; (apply le; exact keepT); exact k.h) : P := h ⟨k⟩
theorem deT {P Q : Prop} (k : Q) (h : Hold Q → P := by intro k; (apply de; exact keepT); exact k.h) : P := h ⟨k⟩
structure Tag (o : List (Nat × Bool)) : Prop where
  h : True
theorem sw_seq_tag {o : List (Nat × Bool)} (_ : Tag o) {P : Program} {n : Nat} {ks : List Nat} {s : ASt} {Q : Exit → ASt → Prop} {id : Nat} {ops : Array Oper} {y : Code} (hm : P.follows .mixedOrders = true) (hsel : Region.noSelect ops = true)
    (hchk : (chkB ops (Array.replicate ops.size false) o && o.length == ops.size) = true) (h : RD P n ops (Array.replicate ops.size false) o [] s (KeepK ks fun s' => SW P n ks y s' Q)) : SW P n ks (.seq (.region id ops true) y) s Q := sw_seq_drawn o hm hsel hchk h
theorem sw_region_tag {o : List (Nat × Bool)} (_ : Tag o) {P : Program} {n : Nat} {ks : List Nat} {s : ASt} {Q : Exit → ASt → Prop} {id : Nat} {ops : Array Oper} (hm : P.follows .mixedOrders = true) (hsel : Region.noSelect ops = true)
    (hchk : (chkB ops (Array.replicate ops.size false) o && o.length == ops.size) = true) (h : RD P n ops (Array.replicate ops.size false) o [] s (KeepK ks (Q .normal))) : SW P n ks (.region id ops true) s Q := sw_region_drawn o hm hsel hchk h
theorem rgD {P Q : Prop} (o : List (Nat × Bool)) (k : Q) (h : Hold Q → Tag o → P := by intro k t; (first | refine sw_seq_tag t mixed (by kernel_rfl) (by kernel_rfl) ?_ | refine sw_region_tag t mixed (by kernel_rfl) (by kernel_rfl) ?_); exact k.h) : P := h ⟨k⟩ ⟨trivial⟩
/-- a new name, told apart from all that are there -/
theorem freshT {S R T G : Nat → Prop} (k : ∀ r, R r → T r) (h : Hold (∀ r, R r → T r) → ∀ r, S r → G r := by intro k r h; refine k.h r ?_; (first | (simp only [fresh_cons, fresh_nil, and_true] at h; exact h) | exact trivial)) : ∀ r, S r → G r := h ⟨k⟩
theorem apnT {S R T G : Nat → Prop} (k : ∀ r, R r → T r) (h : Hold (∀ r, R r → T r) → ∀ r, S r → G r := by intro k r h; simp (disch := (first | (simp only [List.mem_cons, List.not_mem_nil, true_or, or_true, or_false]; done) | (focus (simp only [List.mem_cons, List.not_mem_nil, or_false, not_or]; (repeat' (first | apply And.intro | (first | assumption | (apply Nq.en; assumption) | omega | (simp only [Nq] at *; omega)))); done)) | omega)) only [fresh_cons, fresh_nil, and_true, sdrop_none, sdrop_nil, sdrop_in, sdrop_out] at h; have h2 := h; (repeat (rcases h2 with ⟨_, h2⟩)); apply Exists.intro; apply And.intro; exact ssetT; exact k.h r h) : ∀ r, S r → G r := h ⟨k⟩

/-! ### what is known, told otherwise -/
theorem cnewT {H R : Prop} (a : H) (h : H → R := by intro h; replace h := (h _ List.mem_cons_self).resolve_left (by simp only [List.mem_cons, List.not_mem_nil, or_false, exists_eq_or_imp, exists_eq_left, not_or, false_and, exists_false, not_false_eq_true]; (repeat' (first | apply And.intro | exact nqT)); done); simp only [fresh_cons, fresh_nil, and_true] at h; exact h) : R := h a
theorem lnewT {H R : Prop} (a : H) (h : H → R := by intro h; simp only [List.mem_cons, List.mem_singleton, List.not_mem_nil, or_false, forall_eq_or_imp, forall_eq, fresh_cons, fresh_nil, and_true, and_assoc] at h; exact h) : R := h a
theorem rest1T {H R : Prop} (a : H) (h : H → R := by intro h; have h := fresh_rest (h _ List.mem_cons_self); simp (disch := (first | (simp only [List.mem_cons, List.not_mem_nil, true_or, or_true, or_false]; done) | (focus (simp only [List.mem_cons, List.not_mem_nil, or_false, not_or]; (repeat' (first | apply And.intro | (first | assumption | (apply Nq.en; assumption) | omega | (simp only [Nq] at *; omega)))); done)) | omega)) only [List.map_cons, List.map_nil, sdrop_none, sdrop_nil, sdrop_in, sdrop_out, fresh_cons, fresh_nil, and_true] at h; exact h) : R := h a
end Go.Proofs.Ytjpdadobblffmaa
/-
  The symbolic layer: a walk's steps, each told once. No program is named here.
-/
namespace Go.Proofs.Ytjpdadobblffmaa
open Go.RowKit Go.ChangeShapes Go.WideShapes Go.ChangeAt Go.Deep
theorem z0 {P Q : Prop} (k : Q) (h : Hold Q → P := by intro k; (first | refine lo (lop_conv_in (E rfl) (wrap_u8_of (by omega) (by omega))) rfl ?_ | refine lo (lop_conv (E rfl)) rfl ?_); exact k.h) : P := h ⟨k⟩
theorem z1 {P Q : Prop} (k : Q) (h : Hold Q → P := by intro k; (apply bs; (exact aevtT); rfl; rfl; rfl; rfl; (exact zcT); rfl); exact k.h) : P := h ⟨k⟩
theorem z2 {P Q : Prop} (k : Q) (h : Hold Q → P := by intro k; (refine lo (lop_shr (E rfl) (E rfl) (fun _ => by first | decide | omega)) rfl ?_); exact k.h) : P := h ⟨k⟩
theorem z3 {P Q : Prop} (k : Q) (h : Hold Q → P := by intro k; (refine lo (lop_andNot (E rfl) (E rfl)) rfl ?_); exact k.h) : P := h ⟨k⟩
theorem z4 {P Q : Prop} (k : Q) (h : Hold Q → P := by intro k; (first | refine ln rfl rfl rfl rfl ?_ | refine lg rfl rfl (lop_move (E rfl)) rfl ?_); exact k.h) : P := h ⟨k⟩
theorem z5 {P Q : Prop} (k : Q) (h : Hold Q → P := by intro k; (first | refine ln rfl rfl rfl rfl ?_ | refine lg rfl rfl (lop_and (W rfl id) (E rfl)) rfl ?_); exact k.h) : P := h ⟨k⟩
theorem z6 {P Q : Prop} (k : Q) (h : Hold Q → P := by intro k; (first | refine ln rfl rfl rfl rfl ?_ | refine lg rfl rfl (lop_eql (W rfl id) (E rfl)) rfl ?_); exact k.h) : P := h ⟨k⟩
theorem z7 {P Q : Prop} (k : Q) (h : Hold Q → P := by intro k; (first | refine lo (lop_pick_t (E rfl) (W rfl (by simp))) rfl ?_ | refine lo (lop_pick_f (E rfl) (E rfl)) rfl ?_ | refine lo (lop_pick (E rfl) (W rfl (by simp)) (E rfl)) rfl ?_); exact k.h) : P := h ⟨k⟩
theorem z8 {P Q : Prop} (k : Q) (h : Hold Q → P := by intro k; (first | refine ln rfl rfl rfl rfl ?_ | refine lg rfl rfl (lop_move (W rfl id)) rfl ?_); exact k.h) : P := h ⟨k⟩
theorem z9 {P Q : Prop} (k : Q) (h : Hold Q → P := by intro k; (first | refine ln rfl rfl rfl rfl ?_ | refine lg rfl rfl (lop_move (E rfl)) rfl ?_ | refine lw rfl rfl (lop_move (E rfl)) rfl ?_ | refine lw rfl rfl (lop_no (v := .bool false)) rfl ?_); exact k.h) : P := h ⟨k⟩
theorem z10 {P Q : Prop} (k : Q) (h : Hold Q → P := by intro k; (first | refine ln rfl rfl rfl rfl ?_ | refine lg rfl rfl (lop_and (W rfl (by first | exact id | simp)) (E rfl)) rfl ?_ | refine lw rfl rfl (lop_and (W rfl (by first | exact id | simp)) (E rfl)) rfl ?_ | refine lw rfl rfl (lop_no (v := .bool false)) rfl ?_); exact k.h) : P := h ⟨k⟩
theorem z11 {P Q : Prop} (k : Q) (h : Hold Q → P := by intro k; (first | refine ln rfl rfl rfl rfl ?_ | refine lg rfl rfl (lop_neq (W rfl (by first | exact id | simp)) (E rfl)) rfl ?_ | refine lw rfl rfl (lop_neq (W rfl (by first | exact id | simp)) (E rfl)) rfl ?_ | refine lw rfl rfl (lop_no (v := .bool false)) rfl ?_); exact k.h) : P := h ⟨k⟩
theorem z12 {P Q : Prop} (k : Q) (h : Hold Q → P := by intro k; (first | refine ln rfl rfl rfl rfl ?_ | refine lg rfl rfl (lop_pick_t (W rfl id) (W rfl (by simp))) rfl ?_ | refine lg rfl rfl (lop_pick_f (W rfl id) (E rfl)) rfl ?_ | refine lg rfl rfl (lop_pick (W rfl id) (W rfl (by simp)) (E rfl)) rfl ?_); exact k.h) : P := h ⟨k⟩
theorem z13 {P Q : Prop} (k : Q) (h : Hold Q → P := by intro k; (first | refine lo (lop_pick_t (E rfl) (E rfl)) rfl ?_ | refine lo (lop_pick_f (E rfl) (W rfl (by simp))) rfl ?_ | refine lo (lop_pick (E rfl) (E rfl) (W rfl (by simp))) rfl ?_); exact k.h) : P := h ⟨k⟩
theorem z14 {P Q : Prop} (k : Q) (h : Hold Q → P := by intro k; (first | refine lo (lop_len_map (E rfl)) rfl ?_ | refine lo (lop_len_ro (E rfl)) rfl ?_ | refine lo (lop_len_own (E rfl)) rfl ?_); exact k.h) : P := h ⟨k⟩
theorem z15 {P Q : Prop} (k : Q) (h : Hold Q → P := by intro k; (first | refine lo (lop_index_ro (E rfl) (E rfl) (fun hc => by (simp only [List.length_map]; omega))) rfl ?_ | refine lo (lop_index_own0 (E rfl) sgT (E rfl) (fun hc => by omega)) rfl ?_ | refine lo (lop_index_own (E rfl) sgT (E rfl) (fun hc => by omega)) rfl ?_); exact k.h) : P := h ⟨k⟩
theorem z16 {P Q : Prop} (k : Q) (h : Hold Q → P := by intro k; (first | refine lo (lop_load_el (E rfl) rfl (fun hc => by first | rfl | exact get_map (by assumption) | assumption | exact get_map (at_bang (by omega))) (fun _ => rfl)) rfl ?_ | refine lo (lop_load_ow (E rfl) rfl sgT (fun hc => by first | rfl | exact get_map (by assumption) | assumption | exact get_map (at_bang (by omega))) (fun _ => rfl)) rfl ?_); exact k.h) : P := h ⟨k⟩
theorem z17 {P Q : Prop} (k : Q) (h : Hold Q → P := by intro k; (first | refine lo (lop_add64 (E rfl) (E rfl) (by omega) (by omega)) rfl ?_ | refine lo (lop_add (E rfl) (E rfl)) rfl ?_); exact k.h) : P := h ⟨k⟩
theorem z18 {P Q : Prop} (k : Q) (h : Hold Q → P := by intro k; (first | refine ln rfl rfl rfl rfl ?_ | refine lg rfl rfl (lop_gtr (W rfl id) (E rfl)) rfl ?_); exact k.h) : P := h ⟨k⟩
theorem z19 {P Q : Prop} (k : Q) (h : Hold Q → P := by intro k; (first | refine lo (lop_sub64 (E rfl) (E rfl) (by omega) (by omega)) rfl ?_ | refine lo (lop_sub (E rfl) (E rfl)) rfl ?_); exact k.h) : P := h ⟨k⟩
theorem z20 {P Q : Prop} (k : Q) (h : Hold Q → P := by intro k; (refine lo (lop_quo (E rfl) (E rfl) (fun _ => by first | decide | omega)) rfl ?_); exact k.h) : P := h ⟨k⟩
theorem z21 {P Q : Prop} (k : Q) (h : Hold Q → P := by intro k; (first | refine ln rfl rfl rfl rfl ?_ | refine lg rfl rfl (lop_lss (W rfl id) (W rfl id)) rfl ?_); exact k.h) : P := h ⟨k⟩
theorem z22 {P Q : Prop} (k : Q) (h : Hold Q → P := by intro k; (refine lo (lop_rem (E rfl) (E rfl) (fun _ => by first | decide | omega)) rfl ?_); exact k.h) : P := h ⟨k⟩
theorem z23 {P Q : Prop} (k : Q) (h : Hold Q → P := by intro k; (refine lo (lop_shl (E rfl) (E rfl) (fun _ => by first | decide | omega)) rfl ?_); exact k.h) : P := h ⟨k⟩
theorem z24 {P Q : Prop} (k : Q) (h : Hold Q → P := by intro k; (first | refine lo (lop_conv_in (E rfl) (wrap_u64_of (by omega) (by omega))) rfl ?_ | refine lo (lop_conv (E rfl)) rfl ?_); exact k.h) : P := h ⟨k⟩
theorem z25 {P Q : Prop} (k : Q) (h : Hold Q → P := by intro k; (first | refine dlo rfl (lop_slice_ro (E rfl) OB.none (OB.some (E rfl) (fun _ => by first | rfl | exact (Int.toNat_of_nonneg (by omega)).symm)) (fun _ => by first | (simp only [List.length_map]; omega) | omega)) rfl ?_ | refine dlo rfl (lop_slice_own (E rfl) sgT OB.none (OB.some (E rfl) (fun _ => by first | rfl | exact (Int.toNat_of_nonneg (by omega)).symm)) (fun _ => by first | (simp only [List.length_map]; omega) | omega)) rfl ?_); exact k.h) : P := h ⟨k⟩
theorem z26 {P Q : Prop} (k : Q) (h : Hold Q → P := by intro k; (first | refine dln rfl rfl rfl rfl rfl ?_ | refine dlg rfl rfl rfl (lop_move (E rfl)) rfl ?_); exact k.h) : P := h ⟨k⟩
theorem z27 {P Q : Prop} (k : Q) (h : Hold Q → P := by intro k; (first | refine dln rfl rfl rfl rfl rfl ?_ | refine dlg rfl rfl rfl (lop_lss (W rfl id) (E rfl)) rfl ?_); exact k.h) : P := h ⟨k⟩
theorem z28 {P Q : Prop} (k : Q) (h : Hold Q → P := by intro k; (first | refine dln rfl rfl rfl rfl rfl ?_ | refine dlg rfl rfl rfl (lop_move (W rfl id)) rfl ?_); exact k.h) : P := h ⟨k⟩
theorem z29 {P Q : Prop} (k : Q) (h : Hold Q → P := by intro k; (first | refine dln rfl rfl rfl rfl rfl ?_ | refine dlg rfl rfl rfl (lop_move (E rfl)) rfl ?_ | refine dlw rfl rfl rfl (lop_move (E rfl)) rfl ?_ | refine dlw rfl rfl rfl (lop_no (v := .bool false)) rfl ?_); exact k.h) : P := h ⟨k⟩
theorem z30 {P Q : Prop} (k : Q) (h : Hold Q → P := by intro k; (first | refine dln rfl rfl rfl rfl rfl ?_ | refine dlg rfl rfl rfl (lop_shr (W rfl (by first | exact id | simp)) (W rfl (by first | exact id | simp)) (fun _ => by first | decide | omega)) rfl ?_ | refine dlw rfl rfl rfl (lop_shr (W rfl (by first | exact id | simp)) (W rfl (by first | exact id | simp)) (fun _ => by first | decide | omega)) rfl ?_ | refine dlw rfl rfl rfl (lop_no (v := .bool false)) rfl ?_); exact k.h) : P := h ⟨k⟩
theorem z31 {P Q : Prop} (k : Q) (h : Hold Q → P := by intro k; (first | refine dln rfl rfl rfl rfl rfl ?_ | refine dlg rfl rfl rfl (lop_neq (W rfl (by first | exact id | simp)) (E rfl)) rfl ?_ | refine dlw rfl rfl rfl (lop_neq (W rfl (by first | exact id | simp)) (E rfl)) rfl ?_ | refine dlw rfl rfl rfl (lop_no (v := .bool false)) rfl ?_); exact k.h) : P := h ⟨k⟩
theorem z32 {P Q : Prop} (k : Q) (h : Hold Q → P := by intro k; (first | refine dln rfl rfl rfl rfl rfl ?_ | refine dlg rfl rfl rfl (lop_pick_t (W rfl id) (W rfl (by simp))) rfl ?_ | refine dlg rfl rfl rfl (lop_pick_f (W rfl id) (E rfl)) rfl ?_ | refine dlg rfl rfl rfl (lop_pick (W rfl id) (W rfl (by simp)) (E rfl)) rfl ?_); exact k.h) : P := h ⟨k⟩
theorem z33 {P Q : Prop} (k : Q) (h : Hold Q → P := by intro k; (first | refine dlo rfl (lop_pick_t (E rfl) (E rfl)) rfl ?_ | refine dlo rfl (lop_pick_f (E rfl) (W rfl (by simp))) rfl ?_ | refine dlo rfl (lop_pick (E rfl) (E rfl) (W rfl (by simp))) rfl ?_); exact k.h) : P := h ⟨k⟩
theorem z34 {P Q : Prop} (k : Q) (h : Hold Q → P := by intro k; (first | refine ln rfl rfl rfl rfl ?_ | refine lg rfl rfl (lop_geq (W rfl id) (E rfl)) rfl ?_); exact k.h) : P := h ⟨k⟩
theorem z35 {P Q : Prop} (k : Q) (h : Hold Q → P := by intro k; (first | refine dln rfl rfl rfl rfl rfl ?_ | refine dlg rfl rfl rfl (lop_conv_in (W rfl (by first | exact id | simp)) (wrap_u64_of (by omega) (by omega))) rfl ?_ | refine dlg rfl rfl rfl (lop_conv (W rfl (by first | exact id | simp))) rfl ?_ | refine dlw rfl rfl rfl (lop_conv_in (W rfl (by first | exact id | simp)) (wrap_u64_of (by omega) (by omega))) rfl ?_ | refine dlw rfl rfl rfl (lop_conv (W rfl (by first | exact id | simp))) rfl ?_ | refine dlw rfl rfl rfl (lop_no (v := .bool false)) rfl ?_); exact k.h) : P := h ⟨k⟩
theorem z36 {P Q : Prop} (k : Q) (h : Hold Q → P := by intro k; (first | refine dln rfl rfl rfl rfl rfl ?_ | refine dlg rfl rfl rfl (lop_shl (E rfl) (W rfl (by first | exact id | simp)) (fun _ => by first | decide | omega)) rfl ?_ | refine dlw rfl rfl rfl (lop_shl (E rfl) (W rfl (by first | exact id | simp)) (fun _ => by first | decide | omega)) rfl ?_ | refine dlw rfl rfl rfl (lop_no (v := .bool false)) rfl ?_); exact k.h) : P := h ⟨k⟩
theorem z37 {P Q : Prop} (k : Q) (h : Hold Q → P := by intro k; (first | refine dln rfl rfl rfl rfl rfl ?_ | refine dlg rfl rfl rfl (lop_geq (W rfl (by first | exact id | simp)) (W rfl (by first | exact id | simp))) rfl ?_ | refine dlw rfl rfl rfl (lop_geq (W rfl (by first | exact id | simp)) (W rfl (by first | exact id | simp))) rfl ?_ | refine dlw rfl rfl rfl (lop_no (v := .bool false)) rfl ?_); exact k.h) : P := h ⟨k⟩
theorem z38 {P Q : Prop} (k : Q) (h : Hold Q → P := by intro k; (refine dly rfl rfl rfl (lop_move (E rfl)) rfl ?_); exact k.h) : P := h ⟨k⟩
theorem z39 {P Q : Prop} (k : Q) (h : Hold Q → P := by intro k; (first | refine dly rfl rfl rfl (lop_slice_ro (by first | exact E rfl | exact W rfl id) OB.none (OB.some (by first | exact E rfl | exact W rfl id) (fun _ => by first | rfl | exact (Int.toNat_of_nonneg (by omega)).symm)) (fun _ => by first | (simp only [List.length_map]; omega) | omega)) rfl ?_ | refine dly rfl rfl rfl (lop_slice_own (by first | exact E rfl | exact W rfl id) sgT OB.none (OB.some (by first | exact E rfl | exact W rfl id) (fun _ => by first | rfl | exact (Int.toNat_of_nonneg (by omega)).symm)) (fun _ => by first | (simp only [List.length_map]; omega) | omega)) rfl ?_); exact k.h) : P := h ⟨k⟩
theorem z40 {P Q : Prop} (k : Q) (h : Hold Q → P := by intro k; (refine dly rfl rfl rfl (lop_sneq (by first | exact E rfl | exact W rfl id) (by first | exact E rfl | exact W rfl id)) rfl ?_); exact k.h) : P := h ⟨k⟩
theorem z41 {P Q : Prop} (k : Q) (h : Hold Q → P := by intro k; (first | refine dlo rfl (lop_pick_t (E rfl) (E rfl)) rfl ?_ | refine dlo rfl (lop_pick_f (E rfl) (by first | exact E rfl | exact W rfl (by simp))) rfl ?_ | refine dlo rfl (lop_pick (E rfl) (E rfl) (by first | exact E rfl | exact W rfl (by simp))) rfl ?_); exact k.h) : P := h ⟨k⟩
theorem z42 {P Q : Prop} (k : Q) (h : Hold Q → P := by intro k; (first | refine dln rfl rfl rfl rfl rfl ?_ | refine dlg rfl rfl rfl (lop_slice_ro (W rfl id) OB.none (OB.some (W rfl id) (fun _ => by first | rfl | exact (Int.toNat_of_nonneg (by omega)).symm)) (fun _ => by first | (simp only [List.length_map]; omega) | omega)) rfl ?_ | refine dlg rfl rfl rfl (lop_slice_own (W rfl id) sgT OB.none (OB.some (W rfl id) (fun _ => by first | rfl | exact (Int.toNat_of_nonneg (by omega)).symm)) (fun _ => by first | (simp only [List.length_map]; omega) | omega)) rfl ?_); exact k.h) : P := h ⟨k⟩
theorem z43 {P Q : Prop} (k : Q) (h : Hold Q → P := by intro k; (first | refine dln rfl rfl rfl rfl rfl ?_ | refine dlg rfl rfl rfl (lop_sneq (W rfl id) (W rfl id)) rfl ?_); exact k.h) : P := h ⟨k⟩
theorem z44 {P Q : Prop} (k : Q) (h : Hold Q → P := by intro k; (first | refine lo (lop_conv_in (E rfl) (wrap_i64_of (by omega) (by omega))) rfl ?_ | refine lo (lop_conv (E rfl)) rfl ?_); exact k.h) : P := h ⟨k⟩
theorem z45 {P Q : Prop} (k : Q) (h : Hold Q → P := by intro k; (first | refine dln rfl rfl rfl rfl rfl ?_ | refine dlg rfl rfl rfl (lop_neq (W rfl id) (E rfl)) rfl ?_); exact k.h) : P := h ⟨k⟩
theorem z46 {P Q : Prop} (k : Q) (h : Hold Q → P := by intro k; (refine dlo rfl (lop_lss (E rfl) (E rfl)) rfl ?_); exact k.h) : P := h ⟨k⟩
theorem z47 {P Q : Prop} (k : Q) (h : Hold Q → P := by intro k; (first | refine dln rfl rfl rfl rfl rfl ?_ | refine dlg rfl rfl rfl (lop_sub64 (W rfl id) (E rfl) (by omega) (by omega)) rfl ?_ | refine dlg rfl rfl rfl (lop_sub64c (W rfl id) (E rfl) (fun hc => by simp at hc <;> first | omega | (have hov := hov hc; omega))) rfl ?_ | refine dlg rfl rfl rfl (lop_sub (W rfl id) (E rfl)) rfl ?_); exact k.h) : P := h ⟨k⟩
theorem z48 {P Q : Prop} (k : Q) (h : Hold Q → P := by intro k; (first | refine dln rfl rfl rfl rfl rfl ?_ | refine dlg rfl rfl rfl (lop_conv_in (W rfl id) (wrap_u64_of (by omega) (by omega))) rfl ?_ | refine dlg rfl rfl rfl (lop_conv (W rfl id)) rfl ?_); exact k.h) : P := h ⟨k⟩
theorem z49 {P Q : Prop} (k : Q) (h : Hold Q → P := by intro k; (first | refine dln rfl rfl rfl rfl rfl ?_ | refine dlg rfl rfl rfl (lop_shl (E rfl) (W rfl id) (fun _ => by first | decide | omega)) rfl ?_); exact k.h) : P := h ⟨k⟩
theorem z50 {P Q : Prop} (k : Q) (h : Hold Q → P := by intro k; (first | refine dln rfl rfl rfl rfl rfl ?_ | refine dlg rfl rfl rfl (lop_lss (W rfl id) (W rfl id)) rfl ?_); exact k.h) : P := h ⟨k⟩
theorem z51 {P Q : Prop} (k : Q) (h : Hold Q → P := by intro k; (first | refine dln rfl rfl rfl rfl rfl ?_ | refine dlg rfl rfl rfl (lop_sub64 (W rfl (by first | exact id | simp)) (E rfl) (by omega) (by omega)) rfl ?_ | refine dlg rfl rfl rfl (lop_sub64c (W rfl (by first | exact id | simp)) (E rfl) (fun hc => by simp at hc <;> first | omega | (have hov := hov hc; omega))) rfl ?_ | refine dlg rfl rfl rfl (lop_sub (W rfl (by first | exact id | simp)) (E rfl)) rfl ?_ | refine dlw rfl rfl rfl (lop_sub64 (W rfl (by first | exact id | simp)) (E rfl) (by omega) (by omega)) rfl ?_ | refine dlw rfl rfl rfl (lop_sub64c (W rfl (by first | exact id | simp)) (E rfl) (fun hc => by simp at hc <;> first | omega | (have hov := hov hc; omega))) rfl ?_ | refine dlw rfl rfl rfl (lop_sub (W rfl (by first | exact id | simp)) (E rfl)) rfl ?_ | refine dlw rfl rfl rfl (lop_no (v := .bool false)) rfl ?_); exact k.h) : P := h ⟨k⟩
theorem z52 {P Q : Prop} (k : Q) (h : Hold Q → P := by intro k; (first | refine dln rfl rfl rfl rfl rfl ?_ | refine dlg rfl rfl rfl (lop_pick_t (W rfl id) (E rfl)) rfl ?_ | refine dlg rfl rfl rfl (lop_pick_f (W rfl id) (W rfl (by simp))) rfl ?_ | refine dlg rfl rfl rfl (lop_pick (W rfl id) (E rfl) (W rfl (by simp))) rfl ?_); exact k.h) : P := h ⟨k⟩
theorem z53 {P Q : Prop} (k : Q) (h : Hold Q → P := by intro k; (first | refine dlo rfl (lop_pick_t (E rfl) (W rfl (by simp))) rfl ?_ | refine dlo rfl (lop_pick_f (E rfl) (E rfl)) rfl ?_ | refine dlo rfl (lop_pick (E rfl) (W rfl (by simp)) (E rfl)) rfl ?_); exact k.h) : P := h ⟨k⟩
theorem z54 {P Q : Prop} (k : Q) (h : Hold Q → P := by intro k; (first | refine ln rfl rfl rfl rfl ?_ | refine lg rfl rfl (lop_leq (W rfl id) (W rfl id)) rfl ?_); exact k.h) : P := h ⟨k⟩
theorem z55 {P Q : Prop} (k : Q) (h : Hold Q → P := by intro k; (first | refine ln rfl rfl rfl rfl ?_ | refine lg rfl rfl (lop_leq (W rfl id) (E rfl)) rfl ?_); exact k.h) : P := h ⟨k⟩
theorem z56 {P Q : Prop} (k : Q) (h : Hold Q → P := by intro k; (first | refine dlo rfl (lop_index_ro (E rfl) (E rfl) (fun hc => by (simp only [List.length_map]; omega))) rfl ?_ | refine dlo rfl (lop_index_own0 (E rfl) sgT (E rfl) (fun hc => by omega)) rfl ?_ | refine dlo rfl (lop_index_own (E rfl) sgT (E rfl) (fun hc => by omega)) rfl ?_); exact k.h) : P := h ⟨k⟩
theorem z57 {P Q : Prop} (k : Q) (h : Hold Q → P := by intro k; (first | refine dlo rfl (lop_load_el (E rfl) rfl (fun hc => by first | rfl | exact get_map (by assumption) | assumption | exact get_map (at_bang (by omega))) (fun _ => rfl)) rfl ?_ | refine dlo rfl (lop_load_ow (E rfl) rfl sgT (fun hc => by first | rfl | exact get_map (by assumption) | assumption | exact get_map (at_bang (by omega))) (fun _ => rfl)) rfl ?_); exact k.h) : P := h ⟨k⟩
theorem z58 {P Q : Prop} (k : Q) (h : Hold Q → P := by intro k; (refine dlo rfl (lop_neq (E rfl) (E rfl)) rfl ?_); exact k.h) : P := h ⟨k⟩
theorem z59 {P Q : Prop} (k : Q) (h : Hold Q → P := by intro k; (first | refine lo (lop_field_ptr (E rfl) rfl (by decide)) rfl ?_ | refine lo (lop_field_el (E rfl) rfl (by decide)) rfl ?_); exact k.h) : P := h ⟨k⟩
theorem z60 {P Q : Prop} (k : Q) (h : Hold Q → P := by intro k; (first | refine lo (lop_load_ptr (E rfl) rfl sgT (fun _ => rfl)) rfl ?_ | refine lo (lop_load_ptr (E rfl) rfl sgT (fun _ => by assumption)) rfl ?_ | refine lo (lop_load_el (E rfl) rfl (fun hc => by first | rfl | exact get_map (by assumption) | assumption | exact get_map (at_bang (by omega))) (fun _ => rfl)) rfl ?_); exact k.h) : P := h ⟨k⟩
theorem z61 {P Q : Prop} (k : Q) (h : Hold Q → P := by intro k; (first | refine ln rfl rfl rfl rfl ?_ | refine lg rfl rfl (lop_field_ptr (E rfl) rfl (by decide)) rfl ?_ | refine lg rfl rfl (lop_field_el (E rfl) rfl (by decide)) rfl ?_); exact k.h) : P := h ⟨k⟩
theorem z62 {P Q : Prop} (k : Q) (h : Hold Q → P := by intro k; (first | refine ln rfl rfl rfl rfl ?_ | refine lg rfl rfl (lop_load_ptr (W rfl id) rfl sgT (fun _ => rfl)) rfl ?_ | refine lg rfl rfl (lop_load_ptr (W rfl id) rfl sgT (fun _ => by assumption)) rfl ?_ | refine lg rfl rfl (lop_load_el (W rfl id) rfl (fun hc => by first | rfl | exact get_map (by assumption) | assumption | exact get_map (at_bang (by (try simp at hc) <;> omega))) (fun _ => rfl)) rfl ?_); exact k.h) : P := h ⟨k⟩
theorem z63 {P Q : Prop} (k : Q) (h : Hold Q → P := by intro k; (first | refine ln rfl rfl rfl rfl ?_ | refine lg rfl rfl (lop_len_map (W rfl id)) rfl ?_ | refine lg rfl rfl (lop_len_ro (W rfl id)) rfl ?_ | refine lg rfl rfl (lop_len_own (W rfl id)) rfl ?_); exact k.h) : P := h ⟨k⟩
theorem z64 {P Q : Prop} (k : Q) (h : Hold Q → P := by intro k; (first | refine ln rfl rfl rfl rfl ?_ | refine lg rfl rfl (lop_neq (W rfl id) (E rfl)) rfl ?_); exact k.h) : P := h ⟨k⟩
theorem z65 {P Q : Prop} (k : Q) (h : Hold Q → P := by intro k; (first | refine ln rfl rfl rfl rfl ?_ | refine lg rfl rfl (lop_field_ptr (E rfl) rfl (by decide)) rfl ?_ | refine lg rfl rfl (lop_field_el (E rfl) rfl (by decide)) rfl ?_ | refine lw rfl rfl (lop_field_ptr (E rfl) rfl (by decide)) rfl ?_ | refine lw rfl rfl (lop_field_el (E rfl) rfl (by decide)) rfl ?_ | refine lw rfl rfl (lop_no (v := .bool false)) rfl ?_); exact k.h) : P := h ⟨k⟩
theorem z66 {P Q : Prop} (k : Q) (h : Hold Q → P := by intro k; (first | refine ln rfl rfl rfl rfl ?_ | refine lg rfl rfl (lop_load_ptr (W rfl (by first | exact id | simp)) rfl sgT (fun _ => rfl)) rfl ?_ | refine lg rfl rfl (lop_load_ptr (W rfl (by first | exact id | simp)) rfl sgT (fun _ => by assumption)) rfl ?_ | refine lg rfl rfl (lop_load_el (W rfl (by first | exact id | simp)) rfl (fun hc => by first | rfl | exact get_map (by assumption) | assumption | exact get_map (at_bang (by (try simp at hc) <;> omega))) (fun _ => rfl)) rfl ?_ | refine lw rfl rfl (lop_load_ptr (W rfl (by first | exact id | simp)) rfl sgT (fun _ => rfl)) rfl ?_ | refine lw rfl rfl (lop_load_ptr (W rfl (by first | exact id | simp)) rfl sgT (fun _ => by assumption)) rfl ?_ | refine lw rfl rfl (lop_load_el (W rfl (by first | exact id | simp)) rfl (fun hc => by first | rfl | exact get_map (by assumption) | assumption | exact get_map (at_bang (by (try simp at hc) <;> omega))) (fun _ => rfl)) rfl ?_ | refine lw rfl rfl (lop_no (v := .bool false)) rfl ?_); exact k.h) : P := h ⟨k⟩
theorem z67 {P Q : Prop} (k : Q) (h : Hold Q → P := by intro k; (first | refine ln rfl rfl rfl rfl ?_ | refine lg rfl rfl (lop_not (by first | exact W rfl id | exact E rfl)) rfl ?_); exact k.h) : P := h ⟨k⟩
theorem z68 {P Q : Prop} (k : Q) (h : Hold Q → P := by intro k; (first | refine lo (lop_pick_t (E rfl) (by first | exact W rfl (by simp) | exact E rfl)) rfl ?_ | refine lo (lop_pick_f (E rfl) (E rfl)) rfl ?_ | refine lo (lop_pick (E rfl) (by first | exact W rfl (by simp) | exact E rfl) (E rfl)) rfl ?_); exact k.h) : P := h ⟨k⟩
theorem z69 {P Q : Prop} (k : Q) (h : Hold Q → P := by intro k; (first | refine ln rfl rfl rfl rfl ?_ | refine lg rfl rfl (lop_lss (W rfl id) (E rfl)) rfl ?_); exact k.h) : P := h ⟨k⟩
theorem z70 {P Q : Prop} (k : Q) (h : Hold Q → P := by intro k; (first | refine ln rfl rfl rfl rfl ?_ | refine lg rfl rfl (lop_eql (W rfl id) (W rfl id)) rfl ?_); exact k.h) : P := h ⟨k⟩
theorem z71 {P Q : Prop} (k : Q) (h : Hold Q → P := by intro k; (first | refine ln rfl rfl rfl rfl ?_ | refine lg rfl rfl (lop_index_ro (W rfl id) (W rfl id) (fun hc => by (try simp at hc) <;> (simp only [List.length_map]; omega))) rfl ?_ | refine lg rfl rfl (lop_index_own0 (W rfl id) sgT (W rfl id) (fun hc => by (try simp at hc) <;> omega)) rfl ?_ | refine lg rfl rfl (lop_index_own (W rfl id) sgT (W rfl id) (fun hc => by (try simp at hc) <;> omega)) rfl ?_); exact k.h) : P := h ⟨k⟩
theorem z72 {P Q : Prop} (k : Q) (h : Hold Q → P := by intro k; (first | refine ln rfl rfl rfl rfl ?_ | refine lg rfl rfl (lop_load_el (W rfl id) rfl (fun hc => by first | rfl | exact get_map (by assumption) | assumption | exact get_map (at_bang (by (try simp at hc) <;> omega))) (fun _ => rfl)) rfl ?_ | refine lg rfl rfl (lop_load_ow (W rfl id) rfl sgT (fun hc => by first | rfl | exact get_map (by assumption) | assumption | exact get_map (at_bang (by (try simp at hc) <;> omega))) (fun _ => rfl)) rfl ?_); exact k.h) : P := h ⟨k⟩
theorem z73 {P Q : Prop} (k : Q) (h : Hold Q → P := by intro k; (first | refine dlo rfl (lop_field_ptr (E rfl) rfl (by decide)) rfl ?_ | refine dlo rfl (lop_field_el (E rfl) rfl (by decide)) rfl ?_); exact k.h) : P := h ⟨k⟩
theorem z74 {P Q : Prop} (k : Q) (h : Hold Q → P := by intro k; (first | refine dlo rfl (lop_load_ptr (E rfl) rfl sgT (fun _ => rfl)) rfl ?_ | refine dlo rfl (lop_load_ptr (E rfl) rfl sgT (fun _ => by assumption)) rfl ?_ | refine dlo rfl (lop_load_el (E rfl) rfl (fun hc => by first | rfl | exact get_map (by assumption) | assumption | exact get_map (at_bang (by omega))) (fun _ => rfl)) rfl ?_); exact k.h) : P := h ⟨k⟩
theorem z75 {P Q : Prop} (k : Q) (h : Hold Q → P := by intro k; (first | refine dlo rfl (lop_conv_in (E rfl) (wrap_u64_of (by omega) (by omega))) rfl ?_ | refine dlo rfl (lop_conv (E rfl)) rfl ?_); exact k.h) : P := h ⟨k⟩
theorem z76 {P Q : Prop} (k : Q) (h : Hold Q → P := by intro k; (first | refine lo (lop_nilCheck (E rfl) (.inl ⟨_, _, rfl⟩)) rfl ?_ | refine lo (lop_nilCheck (E rfl) (.inr (.inl ⟨_, _, _, rfl⟩))) rfl ?_ | refine lo (lop_nilCheck (E rfl) (.inr (.inr ⟨_, _, _, _, rfl⟩))) rfl ?_); exact k.h) : P := h ⟨k⟩
theorem z77 {P Q : Prop} (k : Q) (h : Hold Q → P := by intro k; (first | refine dlo rfl (lop_nilCheck (E rfl) (.inl ⟨_, _, rfl⟩)) rfl ?_ | refine dlo rfl (lop_nilCheck (E rfl) (.inr (.inl ⟨_, _, _, rfl⟩))) rfl ?_ | refine dlo rfl (lop_nilCheck (E rfl) (.inr (.inr ⟨_, _, _, _, rfl⟩))) rfl ?_); exact k.h) : P := h ⟨k⟩
theorem z78 {P Q : Prop} (k : Q) (h : Hold Q → P := by intro k; (first | refine dlo rfl (lop_len_map (E rfl)) rfl ?_ | refine dlo rfl (lop_len_ro (E rfl)) rfl ?_ | refine dlo rfl (lop_len_own (E rfl)) rfl ?_); exact k.h) : P := h ⟨k⟩
theorem z79 {P Q : Prop} (k : Q) (h : Hold Q → P := by intro k; (refine dlo rfl (lop_eql (E rfl) (E rfl)) rfl ?_); exact k.h) : P := h ⟨k⟩
theorem z80 {P Q : Prop} (k : Q) (h : Hold Q → P := by intro k; (first | refine ln rfl rfl rfl rfl ?_ | refine lg rfl rfl (lop_conv_in (W rfl id) (wrap_i64_of (by omega) (by omega))) rfl ?_ | refine lg rfl rfl (lop_conv (W rfl id)) rfl ?_); exact k.h) : P := h ⟨k⟩
theorem z81 {P Q : Prop} (k : Q) (h : Hold Q → P := by intro k; (first | refine ln rfl rfl rfl rfl ?_ | refine lg rfl rfl (lop_gtr (W rfl id) (W rfl id)) rfl ?_); exact k.h) : P := h ⟨k⟩
theorem z82 {P Q : Prop} (k : Q) (h : Hold Q → P := by intro k; (first | refine dlo rfl (lop_sub64 (E rfl) (E rfl) (by omega) (by omega)) rfl ?_ | refine dlo rfl (lop_sub (E rfl) (E rfl)) rfl ?_); exact k.h) : P := h ⟨k⟩
theorem z83 {P Q : Prop} (k : Q) (h : Hold Q → P := by intro k; (first | refine dlo rfl (lop_conv_in (E rfl) (wrap_i64_of (by omega) (by omega))) rfl ?_ | refine dlo rfl (lop_conv (E rfl)) rfl ?_); exact k.h) : P := h ⟨k⟩
theorem z84 {P Q : Prop} (k : Q) (h : Hold Q → P := by intro k; (first | refine dlo rfl (lop_slice_ro (E rfl) (OB.some (E rfl) (fun _ => by first | rfl | exact (Int.toNat_of_nonneg (by omega)).symm)) OB.none (fun _ => by first | (simp only [List.length_map]; omega) | omega)) rfl ?_ | refine dlo rfl (lop_slice_own (E rfl) sgT (OB.some (E rfl) (fun _ => by first | rfl | exact (Int.toNat_of_nonneg (by omega)).symm)) OB.none (fun _ => by first | (simp only [List.length_map]; omega) | omega)) rfl ?_); exact k.h) : P := h ⟨k⟩
theorem z85 {P Q : Prop} (k : Q) (h : Hold Q → P := by intro k; (refine dlo rfl (lop_extract (E rfl) rfl) rfl ?_); exact k.h) : P := h ⟨k⟩
theorem z86 {P Q : Prop} (k : Q) (h : Hold Q → P := by intro k; (first | refine dln rfl rfl rfl rfl rfl ?_ | refine dlg rfl rfl rfl (lop_nilCheck (W rfl id) (.inl ⟨_, _, rfl⟩)) rfl ?_ | refine dlg rfl rfl rfl (lop_nilCheck (W rfl id) (.inr (.inl ⟨_, _, _, rfl⟩))) rfl ?_ | refine dlg rfl rfl rfl (lop_nilCheck (W rfl id) (.inr (.inr ⟨_, _, _, _, rfl⟩))) rfl ?_); exact k.h) : P := h ⟨k⟩
theorem z87 {P Q : Prop} (k : Q) (h : Hold Q → P := by intro k; (first | refine dln rfl rfl rfl rfl rfl ?_ | refine dlg rfl rfl rfl (lop_field_ptr (W rfl id) rfl (by decide)) rfl ?_ | refine dlg rfl rfl rfl (lop_field_el (W rfl id) rfl (by decide)) rfl ?_); exact k.h) : P := h ⟨k⟩
theorem z88 {P Q : Prop} (k : Q) (h : Hold Q → P := by intro k; (first | refine dln rfl rfl rfl rfl rfl ?_ | refine dlg rfl rfl rfl (lop_load_ptr (W rfl id) rfl sgT (fun _ => rfl)) rfl ?_ | refine dlg rfl rfl rfl (lop_load_ptr (W rfl id) rfl sgT (fun _ => by assumption)) rfl ?_ | refine dlg rfl rfl rfl (lop_load_el (W rfl id) rfl (fun hc => by first | rfl | exact get_map (by assumption) | assumption | exact get_map (at_bang (by (try simp at hc) <;> omega))) (fun _ => rfl)) rfl ?_); exact k.h) : P := h ⟨k⟩
theorem z89 {P Q : Prop} (k : Q) (h : Hold Q → P := by intro k; (first | refine dln rfl rfl rfl rfl rfl ?_ | refine dlg rfl rfl rfl (lop_len_map (W rfl id)) rfl ?_ | refine dlg rfl rfl rfl (lop_len_ro (W rfl id)) rfl ?_ | refine dlg rfl rfl rfl (lop_len_own (W rfl id)) rfl ?_); exact k.h) : P := h ⟨k⟩
theorem z90 {P Q : Prop} (k : Q) (h : Hold Q → P := by intro k; (first | refine dln rfl rfl rfl rfl rfl ?_ | refine dlg rfl rfl rfl (lop_geq (W rfl id) (W rfl id)) rfl ?_); exact k.h) : P := h ⟨k⟩
theorem z91 {P Q : Prop} (k : Q) (h : Hold Q → P := by intro k; (first | refine ln rfl rfl rfl rfl ?_ | refine lg rfl rfl (lop_nilCheck (W rfl id) (.inl ⟨_, _, rfl⟩)) rfl ?_ | refine lg rfl rfl (lop_nilCheck (W rfl id) (.inr (.inl ⟨_, _, _, rfl⟩))) rfl ?_ | refine lg rfl rfl (lop_nilCheck (W rfl id) (.inr (.inr ⟨_, _, _, _, rfl⟩))) rfl ?_); exact k.h) : P := h ⟨k⟩
theorem z92 {P Q : Prop} (k : Q) (h : Hold Q → P := by intro k; (first | refine ln rfl rfl rfl rfl ?_ | refine lg rfl rfl (lop_field_ptr (W rfl id) rfl (by decide)) rfl ?_ | refine lg rfl rfl (lop_field_el (W rfl id) rfl (by decide)) rfl ?_); exact k.h) : P := h ⟨k⟩
theorem z93 {P Q : Prop} (k : Q) (h : Hold Q → P := by intro k; (refine lo (lop_str (by repeat (first | exact PEvs.nil | (apply PEvs.cons; first | exact W rfl id | exact E rfl))) (by (exact zcT)) (by repeat (first | exact Fill.nil | (apply Fill.cons; rfl; rfl; rfl; (exact putT_))))) rfl ?_); exact k.h) : P := h ⟨k⟩
theorem z94 {P Q : Prop} (k : Q) (h : Hold Q → P := by intro k; (refine dlo rfl (lop_str (by repeat (first | exact PEvs.nil | (apply PEvs.cons; first | exact W rfl id | exact E rfl))) (by (exact zcT)) (by repeat (first | exact Fill.nil | (apply Fill.cons; rfl; rfl; rfl; (exact putT_))))) rfl ?_); exact k.h) : P := h ⟨k⟩
theorem z95 {P Q : Prop} (k : Q) (h : Hold Q → P := by intro k; (apply dstp; rfl; infer_instance; rfl; rfl; rfl; rfl; (exact sputT); (exact hbtT)); exact k.h) : P := h ⟨k⟩
theorem z96 {P Q : Prop} (k : Q) (h : Hold Q → P := by intro k; (first | refine dlo rfl (lop_load_ptr_agg (E rfl) rfl sgT (fun _ => Nat.le_of_ble_eq_true rfl)) rfl ?_ | refine dlo rfl (lop_load_el_agg (E rfl) rfl (fun hc => by first | rfl | exact get_map (by assumption) | assumption | exact get_map (at_bang (by omega))) (fun _ => Nat.le_of_ble_eq_true rfl)) rfl ?_); exact k.h) : P := h ⟨k⟩
theorem z97 {P Q : Prop} (k : Q) (h : Hold Q → P := by intro k; (apply dbs; rfl; infer_instance; infer_instance; (exact aevtT); rfl; rfl; rfl; rfl; (exact zcT); rfl); exact k.h) : P := h ⟨k⟩
theorem z98 {P Q : Prop} (k : Q) (h : Hold Q → P := by intro k; (first | refine ln rfl rfl rfl rfl ?_ | refine lg rfl rfl (lop_eql (by first | exact W rfl id | exact E rfl) (E rfl)) rfl ?_); exact k.h) : P := h ⟨k⟩
theorem z99 {P Q : Prop} (k : Q) (h : Hold Q → P := by intro k; (first | refine lo (lop_load_ptr_agg (E rfl) rfl sgT (fun _ => Nat.le_of_ble_eq_true rfl)) rfl ?_ | refine lo (lop_load_el_agg (E rfl) rfl (fun hc => by first | rfl | exact get_map (by assumption) | assumption | exact get_map (at_bang (by omega))) (fun _ => Nat.le_of_ble_eq_true rfl)) rfl ?_); exact k.h) : P := h ⟨k⟩
theorem z100 {P Q : Prop} (k : Q) (h : Hold Q → P := by intro k; (first | refine lo (lop_slice_ro (E rfl) OB.none (OB.some (E rfl) (fun _ => by first | rfl | exact (Int.toNat_of_nonneg (by omega)).symm)) (fun _ => by first | (simp only [List.length_map]; omega) | omega)) rfl ?_ | refine lo (lop_slice_own (E rfl) sgT OB.none (OB.some (E rfl) (fun _ => by first | rfl | exact (Int.toNat_of_nonneg (by omega)).symm)) (fun _ => by first | (simp only [List.length_map]; omega) | omega)) rfl ?_); exact k.h) : P := h ⟨k⟩
theorem z101 {P Q : Prop} (k : Q) (h : Hold Q → P := by intro k; (refine gy rfl rfl ?_; refine lo (lop_move (E rfl)) rfl ?_); exact k.h) : P := h ⟨k⟩
theorem z102 {P Q : Prop} (k : Q) (h : Hold Q → P := by intro k; (refine gy rfl rfl ?_; refine lo (lop_eql (by first | exact E rfl | exact W rfl id) (E rfl)) rfl ?_); exact k.h) : P := h ⟨k⟩
theorem z103 {P Q : Prop} (k : Q) (h : Hold Q → P := by intro k; (first | refine lo (lop_pick_t (E rfl) (by first | exact E rfl | exact W rfl (by simp))) rfl ?_ | refine lo (lop_pick_f (E rfl) (E rfl)) rfl ?_ | refine lo (lop_pick (E rfl) (by first | exact E rfl | exact W rfl (by simp)) (E rfl)) rfl ?_); exact k.h) : P := h ⟨k⟩
theorem z104 {P Q : Prop} (k : Q) (h : Hold Q → P := by intro k; (refine gy rfl rfl ?_; first | refine lo (lop_load_ptr_agg (E rfl) rfl sgT (fun _ => Nat.le_of_ble_eq_true rfl)) rfl ?_ | refine lo (lop_load_el_agg (E rfl) rfl (fun hc => by first | rfl | exact get_map (by assumption) | assumption | exact get_map (at_bang (by omega))) (fun _ => Nat.le_of_ble_eq_true rfl)) rfl ?_); exact k.h) : P := h ⟨k⟩
theorem z105 {P Q : Prop} (k : Q) (h : Hold Q → P := by intro k; (refine gy rfl rfl ?_; refine lo (lop_str (by repeat (first | exact PEvs.nil | (apply PEvs.cons; first | exact W rfl id | exact E rfl))) (by (exact zcT)) (by repeat (first | exact Fill.nil | (apply Fill.cons; rfl; rfl; rfl; (exact putT_))))) rfl ?_); exact k.h) : P := h ⟨k⟩
theorem z106 {P Q : Prop} (k : Q) (h : Hold Q → P := by intro k; (refine gy rfl rfl ?_; refine lo (lop_not (by first | exact E rfl | exact W rfl id)) rfl ?_); exact k.h) : P := h ⟨k⟩
theorem z107 {P Q : Prop} (k : Q) (h : Hold Q → P := by intro k; (refine gy rfl rfl ?_; first | refine lo (lop_conv_in (by first | exact E rfl | exact W rfl id) (wrap_u8_of (by omega) (by omega))) rfl ?_ | refine lo (lop_conv (by first | exact E rfl | exact W rfl id)) rfl ?_); exact k.h) : P := h ⟨k⟩
theorem z108 {P Q : Prop} (k : Q) (h : Hold Q → P := by intro k; (refine gy rfl rfl ?_; apply bs; (exact aevtT); rfl; rfl; rfl; rfl; (exact zcT); rfl); exact k.h) : P := h ⟨k⟩
theorem z109 {P Q : Prop} (k : Q) (h : Hold Q → P := by intro k; (first | refine ln rfl rfl rfl rfl ?_ | (refine gy rfl rfl ?_; refine lo (lop_move (E rfl)) rfl ?_) | refine lg rfl rfl (lop_move (E rfl)) rfl ?_); exact k.h) : P := h ⟨k⟩
theorem z110 {P Q : Prop} (k : Q) (h : Hold Q → P := by intro k; (first | refine ln rfl rfl rfl rfl ?_ | (refine gy rfl rfl ?_; refine lo (lop_lss (by first | exact W rfl id | exact E rfl) (by first | exact W rfl id | exact E rfl)) rfl ?_) | refine lg rfl rfl (lop_lss (by first | exact W rfl id | exact E rfl) (by first | exact W rfl id | exact E rfl)) rfl ?_); exact k.h) : P := h ⟨k⟩
theorem z111 {P Q : Prop} (k : Q) (h : Hold Q → P := by intro k; (first | refine lo (lop_load_el_agg (E rfl) rfl (fun hc => by first | rfl | exact get_map (by assumption) | assumption | exact get_map (at_bang (by omega))) (fun _ => Nat.le_of_ble_eq_true rfl)) rfl ?_ | refine lo (lop_load_ow_agg (E rfl) rfl sgT (fun hc => by first | rfl | exact get_map (by assumption) | assumption | exact get_map (at_bang (by omega))) (fun _ => Nat.le_of_ble_eq_true rfl)) rfl ?_); exact k.h) : P := h ⟨k⟩
theorem z112 {P Q : Prop} (k : Q) (h : Hold Q → P := by intro k; (first | refine ln rfl rfl rfl rfl ?_ | (refine gy rfl rfl ?_; refine lo (lop_eql (by first | exact W rfl id | exact E rfl) (E rfl)) rfl ?_) | refine lg rfl rfl (lop_eql (by first | exact W rfl id | exact E rfl) (E rfl)) rfl ?_); exact k.h) : P := h ⟨k⟩
theorem z113 {P Q : Prop} (k : Q) (h : Hold Q → P := by intro k; (first | refine lo (lop_pick_t (E rfl) (E rfl)) rfl ?_ | refine lo (lop_pick_f (E rfl) (by first | exact W rfl (by simp) | exact E rfl)) rfl ?_ | refine lo (lop_pick (E rfl) (E rfl) (by first | exact W rfl (by simp) | exact E rfl)) rfl ?_); exact k.h) : P := h ⟨k⟩
theorem z114 {P Q : Prop} (k : Q) (h : Hold Q → P := by intro k; (first | refine ln rfl rfl rfl rfl ?_ | (refine gy rfl rfl ?_; (first | refine lo (lop_field_ptr (E rfl) rfl (by decide)) rfl ?_ | refine lo (lop_field_el (E rfl) rfl (by decide)) rfl ?_)) | refine lg rfl rfl (lop_field_ptr (E rfl) rfl (by decide)) rfl ?_ | refine lg rfl rfl (lop_field_el (E rfl) rfl (by decide)) rfl ?_); exact k.h) : P := h ⟨k⟩
theorem z115 {P Q : Prop} (k : Q) (h : Hold Q → P := by intro k; (first | refine ln rfl rfl rfl rfl ?_ | (refine gy rfl rfl ?_; (first | refine lo (lop_load_ptr (by first | exact W rfl id | exact E rfl) rfl sgT (fun _ => rfl)) rfl ?_ | refine lo (lop_load_ptr (by first | exact W rfl id | exact E rfl) rfl sgT (fun _ => by assumption)) rfl ?_ | refine lo (lop_load_el (by first | exact W rfl id | exact E rfl) rfl (fun hc => by first | rfl | exact get_map (by assumption) | assumption | exact get_map (at_bang (by omega))) (fun _ => rfl)) rfl ?_)) | refine lg rfl rfl (lop_load_ptr (by first | exact W rfl id | exact E rfl) rfl sgT (fun _ => rfl)) rfl ?_ | refine lg rfl rfl (lop_load_ptr (by first | exact W rfl id | exact E rfl) rfl sgT (fun _ => by assumption)) rfl ?_ | refine lg rfl rfl (lop_load_el (by first | exact W rfl id | exact E rfl) rfl (fun hc => by first | rfl | exact get_map (by assumption) | assumption | exact get_map (at_bang (by (try simp at hc) <;> omega))) (fun _ => rfl)) rfl ?_); exact k.h) : P := h ⟨k⟩
theorem z116 {P Q : Prop} (k : Q) (h : Hold Q → P := by intro k; (first | refine ln rfl rfl rfl rfl ?_ | (refine gy rfl rfl ?_; refine lo (lop_neq (by first | exact W rfl id | exact E rfl) (E rfl)) rfl ?_) | refine lg rfl rfl (lop_neq (by first | exact W rfl id | exact E rfl) (E rfl)) rfl ?_); exact k.h) : P := h ⟨k⟩
theorem z117 {P Q : Prop} (k : Q) (h : Hold Q → P := by intro k; (first | refine lo (lop_field_el (E rfl) rfl (by decide)) rfl ?_ | refine lo (lop_field_ow (E rfl) rfl (by decide)) rfl ?_); exact k.h) : P := h ⟨k⟩
theorem z118 {P Q : Prop} (k : Q) (h : Hold Q → P := by intro k; (apply sto; rfl; rfl; rfl; rfl; (exact ssetT); (exact atT); (exact putT_); rfl); exact k.h) : P := h ⟨k⟩
theorem z119 {P Q : Prop} (k : Q) (h : Hold Q → P := by intro k; (first | refine ln rfl rfl rfl rfl ?_ | (refine gy rfl rfl ?_; (first | refine lo (lop_sub64 (by first | exact W rfl id | exact E rfl) (E rfl) (by omega) (by omega)) rfl ?_ | refine lo (lop_sub (by first | exact W rfl id | exact E rfl) (E rfl)) rfl ?_)) | refine lg rfl rfl (lop_sub64 (by first | exact W rfl id | exact E rfl) (E rfl) (by omega) (by omega)) rfl ?_ | refine lg rfl rfl (lop_sub64c (by first | exact W rfl id | exact E rfl) (E rfl) (fun hc => by simp at hc <;> first | omega | (have hov := hov hc; omega))) rfl ?_ | refine lg rfl rfl (lop_sub (by first | exact W rfl id | exact E rfl) (E rfl)) rfl ?_); exact k.h) : P := h ⟨k⟩
theorem z120 {P Q : Prop} (k : Q) (h : Hold Q → P := by intro k; (first | refine ln rfl rfl rfl rfl ?_ | (refine gy rfl rfl ?_; (first | refine lo (lop_index_ro (by first | exact W rfl id | exact E rfl) (by first | exact W rfl id | exact E rfl) (fun hc => by (simp only [List.length_map]; omega))) rfl ?_ | refine lo (lop_index_own0 (by first | exact W rfl id | exact E rfl) sgT (by first | exact W rfl id | exact E rfl) (fun hc => by omega)) rfl ?_ | refine lo (lop_index_own (by first | exact W rfl id | exact E rfl) sgT (by first | exact W rfl id | exact E rfl) (fun hc => by omega)) rfl ?_)) | refine lg rfl rfl (lop_index_ro (by first | exact W rfl id | exact E rfl) (by first | exact W rfl id | exact E rfl) (fun hc => by (try simp at hc) <;> (simp only [List.length_map]; omega))) rfl ?_ | refine lg rfl rfl (lop_index_own0 (by first | exact W rfl id | exact E rfl) sgT (by first | exact W rfl id | exact E rfl) (fun hc => by (try simp at hc) <;> omega)) rfl ?_ | refine lg rfl rfl (lop_index_own (by first | exact W rfl id | exact E rfl) sgT (by first | exact W rfl id | exact E rfl) (fun hc => by (try simp at hc) <;> omega)) rfl ?_); exact k.h) : P := h ⟨k⟩
theorem z121 {P Q : Prop} (k : Q) (h : Hold Q → P := by intro k; (first | refine ln rfl rfl rfl rfl ?_ | (refine gy rfl rfl ?_; (first | refine lo (lop_load_el (by first | exact W rfl id | exact E rfl) rfl (fun hc => by first | rfl | exact get_map (by assumption) | assumption | exact get_map (at_bang (by omega))) (fun _ => rfl)) rfl ?_ | refine lo (lop_load_ow (by first | exact W rfl id | exact E rfl) rfl sgT (fun hc => by first | rfl | exact get_map (by assumption) | assumption | exact get_map (at_bang (by omega))) (fun _ => rfl)) rfl ?_)) | refine lg rfl rfl (lop_load_el (by first | exact W rfl id | exact E rfl) rfl (fun hc => by first | rfl | exact get_map (by assumption) | assumption | exact get_map (at_bang (by (try simp at hc) <;> omega))) (fun _ => rfl)) rfl ?_ | refine lg rfl rfl (lop_load_ow (by first | exact W rfl id | exact E rfl) rfl sgT (fun hc => by first | rfl | exact get_map (by assumption) | assumption | exact get_map (at_bang (by (try simp at hc) <;> omega))) (fun _ => rfl)) rfl ?_); exact k.h) : P := h ⟨k⟩
theorem z122 {P Q : Prop} (k : Q) (h : Hold Q → P := by intro k; (first | refine ln rfl rfl rfl rfl ?_ | (refine gy rfl rfl ?_; (first | refine lo (lop_field_el (by first | exact W rfl id | exact E rfl) rfl (by decide)) rfl ?_ | refine lo (lop_field_ow (by first | exact W rfl id | exact E rfl) rfl (by decide)) rfl ?_)) | refine lg rfl rfl (lop_field_el (by first | exact W rfl id | exact E rfl) rfl (by decide)) rfl ?_ | refine lg rfl rfl (lop_field_ow (by first | exact W rfl id | exact E rfl) rfl (by decide)) rfl ?_); exact k.h) : P := h ⟨k⟩
theorem z123 {P Q : Prop} (k : Q) (h : Hold Q → P := by intro k; (first | refine ln rfl rfl rfl rfl ?_ | (refine gy rfl rfl ?_; refine lo (lop_geq (by first | exact W rfl id | exact E rfl) (E rfl)) rfl ?_) | refine lg rfl rfl (lop_geq (by first | exact W rfl id | exact E rfl) (E rfl)) rfl ?_); exact k.h) : P := h ⟨k⟩
theorem z124 {P Q : Prop} (k : Q) (h : Hold Q → P := by intro k; (first | refine ln rfl rfl rfl rfl ?_ | (refine gy rfl rfl ?_; (first | refine lo (lop_len_map (by first | exact W rfl id | exact E rfl)) rfl ?_ | refine lo (lop_len_ro (by first | exact W rfl id | exact E rfl)) rfl ?_ | refine lo (lop_len_own (by first | exact W rfl id | exact E rfl)) rfl ?_)) | refine lg rfl rfl (lop_len_map (by first | exact W rfl id | exact E rfl)) rfl ?_ | refine lg rfl rfl (lop_len_ro (by first | exact W rfl id | exact E rfl)) rfl ?_ | refine lg rfl rfl (lop_len_own (by first | exact W rfl id | exact E rfl)) rfl ?_); exact k.h) : P := h ⟨k⟩
theorem z125 {P Q : Prop} (k : Q) (h : Hold Q → P := by intro k; (first | refine ln rfl rfl rfl rfl ?_ | (refine gy rfl rfl ?_; refine lo (lop_gtr (by first | exact W rfl id | exact E rfl) (E rfl)) rfl ?_) | refine lg rfl rfl (lop_gtr (by first | exact W rfl id | exact E rfl) (E rfl)) rfl ?_); exact k.h) : P := h ⟨k⟩
theorem z126 {P Q : Prop} (k : Q) (h : Hold Q → P := by intro k; (first | refine dlo rfl (lop_load_el_agg (E rfl) rfl (fun hc => by first | rfl | exact get_map (by assumption) | assumption | exact get_map (at_bang (by omega))) (fun _ => Nat.le_of_ble_eq_true rfl)) rfl ?_ | refine dlo rfl (lop_load_ow_agg (E rfl) rfl sgT (fun hc => by first | rfl | exact get_map (by assumption) | assumption | exact get_map (at_bang (by omega))) (fun _ => Nat.le_of_ble_eq_true rfl)) rfl ?_); exact k.h) : P := h ⟨k⟩
theorem z127 {P Q : Prop} (k : Q) (h : Hold Q → P := by intro k; (first | refine lo (lop_slice_ro (E rfl) (OB.some (E rfl) (fun _ => by first | rfl | exact (Int.toNat_of_nonneg (by omega)).symm)) OB.none (fun _ => by first | (simp only [List.length_map]; omega) | omega)) rfl ?_ | refine lo (lop_slice_own (E rfl) sgT (OB.some (E rfl) (fun _ => by first | rfl | exact (Int.toNat_of_nonneg (by omega)).symm)) OB.none (fun _ => by first | (simp only [List.length_map]; omega) | omega)) rfl ?_); exact k.h) : P := h ⟨k⟩
theorem z128 {P Q : Prop} (k : Q) (h : Hold Q → P := by intro k; (first | refine ln rfl rfl rfl rfl ?_ | (refine gy rfl rfl ?_; refine lo (lop_eql (by first | exact W rfl id | exact E rfl) (by first | exact W rfl id | exact E rfl)) rfl ?_) | refine lg rfl rfl (lop_eql (by first | exact W rfl id | exact E rfl) (by first | exact W rfl id | exact E rfl)) rfl ?_); exact k.h) : P := h ⟨k⟩
theorem z129 {P Q : Prop} (k : Q) (h : Hold Q → P := by intro k; (first | refine ln rfl rfl rfl rfl ?_ | (refine gy rfl rfl ?_; refine lo (lop_func .nil (.cons rfl .nil)) rfl ?_) | refine lg rfl rfl (lop_func .nil (.cons rfl .nil)) rfl ?_); exact k.h) : P := h ⟨k⟩
theorem z130 {P Q : Prop} (k : Q) (h : Hold Q → P := by intro k; (first | refine ln rfl rfl rfl rfl ?_ | (refine gy rfl rfl ?_; refine lo (lop_not (by first | exact W rfl id | exact E rfl)) rfl ?_) | refine lg rfl rfl (lop_not (by first | exact W rfl id | exact E rfl)) rfl ?_); exact k.h) : P := h ⟨k⟩
theorem z131 {P Q : Prop} (k : Q) (h : Hold Q → P := by intro k; (first | refine ln rfl rfl rfl rfl ?_ | (refine gy rfl rfl ?_; refine lo (lop_leq (by first | exact W rfl id | exact E rfl) (E rfl)) rfl ?_) | refine lg rfl rfl (lop_leq (by first | exact W rfl id | exact E rfl) (E rfl)) rfl ?_); exact k.h) : P := h ⟨k⟩
theorem z132 {P Q : Prop} (k : Q) (h : Hold Q → P := by intro k; (first | refine ln rfl rfl rfl rfl ?_ | (refine gy rfl rfl ?_; refine lo (lop_leq (by first | exact W rfl id | exact E rfl) (by first | exact W rfl id | exact E rfl)) rfl ?_) | refine lg rfl rfl (lop_leq (by first | exact W rfl id | exact E rfl) (by first | exact W rfl id | exact E rfl)) rfl ?_); exact k.h) : P := h ⟨k⟩
theorem z133 {P Q : Prop} (k : Q) (h : Hold Q → P := by intro k; (first | refine ln rfl rfl rfl rfl ?_ | (refine gy rfl rfl ?_; refine lo (lop_move (by first | exact W rfl id | exact E rfl)) rfl ?_) | refine lg rfl rfl (lop_move (by first | exact W rfl id | exact E rfl)) rfl ?_); exact k.h) : P := h ⟨k⟩
theorem z134 {P Q : Prop} (k : Q) (h : Hold Q → P := by intro k; (first | refine ln rfl rfl rfl rfl ?_ | (refine gy rfl rfl ?_; (first | refine lo (lop_field_ptr (E rfl) rfl (by decide)) rfl ?_ | refine lo (lop_field_el (E rfl) rfl (by decide)) rfl ?_)) | refine lg rfl rfl (lop_field_ptr (E rfl) rfl (by decide)) rfl ?_ | refine lg rfl rfl (lop_field_el (E rfl) rfl (by decide)) rfl ?_ | refine lw rfl rfl (lop_field_ptr (E rfl) rfl (by decide)) rfl ?_ | refine lw rfl rfl (lop_field_el (E rfl) rfl (by decide)) rfl ?_ | refine lw rfl rfl (lop_no (v := .bool false)) rfl ?_); exact k.h) : P := h ⟨k⟩
theorem z135 {P Q : Prop} (k : Q) (h : Hold Q → P := by intro k; (
     first
      | refine ln rfl rfl rfl rfl ?_
      | (refine gy rfl rfl ?_; (
       first
        | refine lo (lop_load_ptr (by
         first
          | exact W rfl id
          | exact E rfl) rfl sgT (fun _ => rfl)) rfl ?_
        | refine lo (lop_load_ptr (by
         first
          | exact W rfl id
          | exact E rfl) rfl sgT (fun _ => by assumption)) rfl ?_
        | refine lo (lop_load_el (by
         first
          | exact W rfl id
          | exact E rfl) rfl (fun hc => by
         first
          | rfl
          | exact get_map (by assumption)
          | assumption
          | exact get_map (at_bang (by omega))) (fun _ => rfl)) rfl ?_))
      | refine lg rfl rfl (lop_load_ptr (by
       first
        | exact W rfl (by
        first
         | exact id
         | simp)
        | exact E rfl) rfl sgT (fun _ => rfl)) rfl ?_
      | refine lg rfl rfl (lop_load_ptr (by
       first
        | exact W rfl (by
        first
         | exact id
         | simp)
        | exact E rfl) rfl sgT (fun _ => by assumption)) rfl ?_
      | refine lg rfl rfl (lop_load_el (by
       first
        | exact W rfl (by
        first
         | exact id
         | simp)
        | exact E rfl) rfl (fun hc => by
       first
        | rfl
        | exact get_map (by assumption)
        | assumption
        | exact get_map (at_bang (by (try simp at hc) <;> omega))) (fun _ => rfl)) rfl ?_
      | refine lw rfl rfl (lop_load_ptr (by
       first
        | exact W rfl (by
        first
         | exact id
         | simp)
        | exact E rfl) rfl sgT (fun _ => rfl)) rfl ?_
      | refine lw rfl rfl (lop_load_ptr (by
       first
        | exact W rfl (by
        first
         | exact id
         | simp)
        | exact E rfl) rfl sgT (fun _ => by assumption)) rfl ?_
      | refine lw rfl rfl (lop_load_el (by
       first
        | exact W rfl (by
        first
         | exact id
         | simp)
        | exact E rfl) rfl (fun hc => by
       first
        | rfl
        | exact get_map (by assumption)
        | assumption
        | exact get_map (at_bang (by (try simp at hc) <;> omega))) (fun _ => rfl)) rfl ?_
      | refine lw rfl rfl (lop_no (v := .bool false)) rfl ?_); exact k.h) : P := h ⟨k⟩
theorem z136 {P Q : Prop} (k : Q) (h : Hold Q → P := by intro k; (first | refine ln rfl rfl rfl rfl ?_ | (refine gy rfl rfl ?_; refine lo (lop_geq (by first | exact W rfl id | exact E rfl) (E rfl)) rfl ?_) | refine lg rfl rfl (lop_geq (by first | exact W rfl (by first | exact id | simp) | exact E rfl) (E rfl)) rfl ?_ | refine lw rfl rfl (lop_geq (by first | exact W rfl (by first | exact id | simp) | exact E rfl) (E rfl)) rfl ?_ | refine lw rfl rfl (lop_no (v := .bool false)) rfl ?_); exact k.h) : P := h ⟨k⟩
theorem z137 {P Q : Prop} (k : Q) (h : Hold Q → P := by intro k; (first | refine ln rfl rfl rfl rfl ?_ | (refine gy rfl rfl ?_; (first | refine lo (lop_pick_t (by first | exact W rfl id | exact E rfl) (by first | exact W rfl (by simp) | exact E rfl)) rfl ?_ | refine lo (lop_pick_f (by first | exact W rfl id | exact E rfl) (E rfl)) rfl ?_ | refine lo (lop_pick (by first | exact W rfl id | exact E rfl) (by first | exact W rfl (by simp) | exact E rfl) (E rfl)) rfl ?_)) | refine lg rfl rfl (lop_pick_t (by first | exact W rfl id | exact E rfl) (by first | exact W rfl (by simp) | exact E rfl)) rfl ?_ | refine lg rfl rfl (lop_pick_f (by first | exact W rfl id | exact E rfl) (E rfl)) rfl ?_ | refine lg rfl rfl (lop_pick (by first | exact W rfl id | exact E rfl) (by first | exact W rfl (by simp) | exact E rfl) (E rfl)) rfl ?_); exact k.h) : P := h ⟨k⟩
theorem z138 {P Q : Prop} (k : Q) (h : Hold Q → P := by intro k; (first | refine ln rfl rfl rfl rfl ?_ | (refine gy rfl rfl ?_; refine lo (lop_leq (by first | exact W rfl id | exact E rfl) (E rfl)) rfl ?_) | refine lg rfl rfl (lop_leq (by first | exact W rfl (by first | exact id | simp) | exact E rfl) (E rfl)) rfl ?_ | refine lw rfl rfl (lop_leq (by first | exact W rfl (by first | exact id | simp) | exact E rfl) (E rfl)) rfl ?_ | refine lw rfl rfl (lop_no (v := .bool false)) rfl ?_); exact k.h) : P := h ⟨k⟩
theorem z139 {P Q : Prop} (k : Q) (h : Hold Q → P := by intro k; (first | refine ln rfl rfl rfl rfl ?_ | (refine gy rfl rfl ?_; (first | refine lo (lop_load_ptr_agg (E rfl) rfl sgT (fun _ => Nat.le_of_ble_eq_true rfl)) rfl ?_ | refine lo (lop_load_el_agg (E rfl) rfl (fun hc => by first | rfl | exact get_map (by assumption) | assumption | exact get_map (at_bang (by omega))) (fun _ => Nat.le_of_ble_eq_true rfl)) rfl ?_)) | refine lg rfl rfl (lop_load_ptr_agg (E rfl) rfl sgT (fun _ => Nat.le_of_ble_eq_true rfl)) rfl ?_ | refine lg rfl rfl (lop_load_el_agg (E rfl) rfl (fun hc => by first | rfl | exact get_map (by assumption) | assumption | exact get_map (at_bang (by (try simp at hc) <;> omega))) (fun _ => Nat.le_of_ble_eq_true rfl)) rfl ?_); exact k.h) : P := h ⟨k⟩
theorem z140 {P Q : Prop} (k : Q) (h : Hold Q → P := by intro k; (first | refine ln rfl rfl rfl rfl ?_ | (refine gy rfl rfl ?_; (first | refine lo (lop_load_ptr_agg (by first | exact W rfl id | exact E rfl) rfl sgT (fun _ => Nat.le_of_ble_eq_true rfl)) rfl ?_ | refine lo (lop_load_el_agg (by first | exact W rfl id | exact E rfl) rfl (fun hc => by first | rfl | exact get_map (by assumption) | assumption | exact get_map (at_bang (by omega))) (fun _ => Nat.le_of_ble_eq_true rfl)) rfl ?_)) | refine lg rfl rfl (lop_load_ptr_agg (by first | exact W rfl id | exact E rfl) rfl sgT (fun _ => Nat.le_of_ble_eq_true rfl)) rfl ?_ | refine lg rfl rfl (lop_load_el_agg (by first | exact W rfl id | exact E rfl) rfl (fun hc => by first | rfl | exact get_map (by assumption) | assumption | exact get_map (at_bang (by (try simp at hc) <;> omega))) (fun _ => Nat.le_of_ble_eq_true rfl)) rfl ?_); exact k.h) : P := h ⟨k⟩
theorem z141 {P Q : Prop} (k : Q) (h : Hold Q → P := by intro k; (first | refine ln rfl rfl rfl rfl ?_ | (refine gy rfl rfl ?_; (first | refine lo (lop_nilCheck (by first | exact W rfl id | exact E rfl) (.inl ⟨_, _, rfl⟩)) rfl ?_ | refine lo (lop_nilCheck (by first | exact W rfl id | exact E rfl) (.inr (.inl ⟨_, _, _, rfl⟩))) rfl ?_ | refine lo (lop_nilCheck (by first | exact W rfl id | exact E rfl) (.inr (.inr ⟨_, _, _, _, rfl⟩))) rfl ?_)) | refine lg rfl rfl (lop_nilCheck (by first | exact W rfl id | exact E rfl) (.inl ⟨_, _, rfl⟩)) rfl ?_ | refine lg rfl rfl (lop_nilCheck (by first | exact W rfl id | exact E rfl) (.inr (.inl ⟨_, _, _, rfl⟩))) rfl ?_ | refine lg rfl rfl (lop_nilCheck (by first | exact W rfl id | exact E rfl) (.inr (.inr ⟨_, _, _, _, rfl⟩))) rfl ?_); exact k.h) : P := h ⟨k⟩
theorem z142 {P Q : Prop} (k : Q) (h : Hold Q → P := by intro k; (first | refine ln rfl rfl rfl rfl ?_ | (refine gy rfl rfl ?_; (first | refine lo (lop_field_ptr (by first | exact W rfl id | exact E rfl) rfl (by decide)) rfl ?_ | refine lo (lop_field_el (by first | exact W rfl id | exact E rfl) rfl (by decide)) rfl ?_)) | refine lg rfl rfl (lop_field_ptr (by first | exact W rfl id | exact E rfl) rfl (by decide)) rfl ?_ | refine lg rfl rfl (lop_field_el (by first | exact W rfl id | exact E rfl) rfl (by decide)) rfl ?_); exact k.h) : P := h ⟨k⟩
theorem z143 {P Q : Prop} (k : Q) (h : Hold Q → P := by intro k; (first | refine ln rfl rfl rfl rfl ?_ | (refine gy rfl rfl ?_; refine lo (lop_gtr (by first | exact W rfl id | exact E rfl) (by first | exact W rfl id | exact E rfl)) rfl ?_) | refine lg rfl rfl (lop_gtr (by first | exact W rfl id | exact E rfl) (by first | exact W rfl id | exact E rfl)) rfl ?_); exact k.h) : P := h ⟨k⟩
theorem z144 {P Q : Prop} (k : Q) (h : Hold Q → P := by intro k; (first | refine dlo rfl (lop_add64 (E rfl) (E rfl) (by omega) (by omega)) rfl ?_ | refine dlo rfl (lop_add (E rfl) (E rfl)) rfl ?_); exact k.h) : P := h ⟨k⟩
theorem z145 {P Q : Prop} (k : Q) (h : Hold Q → P := by intro k; (first | refine lo (lop_bytes_ro (E rfl)) rfl ?_ | refine lo (lop_text_own (E rfl)) rfl ?_); exact k.h) : P := h ⟨k⟩
theorem z146 {P Q : Prop} (k : Q) (h : Hold Q → P := by intro k; (first | refine ln rfl rfl rfl rfl ?_ | (refine gy rfl rfl ?_; refine lo (lop_eql (by first | exact W rfl id | exact E rfl) (E rfl)) rfl ?_) | refine lg rfl rfl (lop_eql (by first | exact W rfl (by first | exact id | simp) | exact E rfl) (E rfl)) rfl ?_ | refine lw rfl rfl (lop_eql (by first | exact W rfl (by first | exact id | simp) | exact E rfl) (E rfl)) rfl ?_ | refine lw rfl rfl (lop_no (v := .bool false)) rfl ?_); exact k.h) : P := h ⟨k⟩
theorem z147 {P Q : Prop} (k : Q) (h : Hold Q → P := by intro k; (first | refine ln rfl rfl rfl rfl ?_ | (refine gy rfl rfl ?_; (first | refine lo (lop_pick_t (by first | exact W rfl id | exact E rfl) (E rfl)) rfl ?_ | refine lo (lop_pick_f (by first | exact W rfl id | exact E rfl) (by first | exact W rfl (by simp) | exact E rfl)) rfl ?_ | refine lo (lop_pick (by first | exact W rfl id | exact E rfl) (E rfl) (by first | exact W rfl (by simp) | exact E rfl)) rfl ?_)) | refine lg rfl rfl (lop_pick_t (by first | exact W rfl id | exact E rfl) (E rfl)) rfl ?_ | refine lg rfl rfl (lop_pick_f (by first | exact W rfl id | exact E rfl) (by first | exact W rfl (by simp) | exact E rfl)) rfl ?_ | refine lg rfl rfl (lop_pick (by first | exact W rfl id | exact E rfl) (E rfl) (by first | exact W rfl (by simp) | exact E rfl)) rfl ?_); exact k.h) : P := h ⟨k⟩
theorem z148 {P Q : Prop} (k : Q) (h : Hold Q → P := by intro k; (refine lo (lop_fld (E rfl) rfl rfl (fun _ => rfl)) rfl ?_); exact k.h) : P := h ⟨k⟩
theorem z149 {P Q : Prop} (k : Q) (h : Hold Q → P := by intro k; (refine lo (lop_func (.cons rfl .nil) .nil) rfl ?_); exact k.h) : P := h ⟨k⟩
theorem z150 {P Q : Prop} (k : Q) (h : Hold Q → P := by intro k; (refine lo (lop_func .nil (.cons rfl (.cons rfl .nil))) rfl ?_); exact k.h) : P := h ⟨k⟩
theorem z151 {P Q : Prop} (k : Q) (h : Hold Q → P := by intro k; (refine dlo rfl (lop_func (.cons rfl .nil) .nil) rfl ?_); exact k.h) : P := h ⟨k⟩
theorem z152 {P Q : Prop} (k : Q) (h : Hold Q → P := by intro k; (refine lo (lop_func .nil (.cons rfl .nil)) rfl ?_); exact k.h) : P := h ⟨k⟩
theorem z153 {P Q : Prop} (k : Q) (h : Hold Q → P := by intro k; (first | refine ln rfl rfl rfl rfl ?_ | (refine gy rfl rfl ?_; refine lo (lop_len_str (by first | exact W rfl id | exact E rfl)) rfl ?_) | refine lg rfl rfl (lop_len_str (by first | exact W rfl id | exact E rfl)) rfl ?_); exact k.h) : P := h ⟨k⟩
theorem z154 {P Q : Prop} (k : Q) (h : Hold Q → P := by intro k; (first | refine ln rfl rfl rfl rfl ?_ | (refine gy rfl rfl ?_; refine lo (lop_slice_str (by first | exact W rfl id | exact E rfl) OB.none (OB.some (by first | exact W rfl id | exact E rfl) (fun _ => by first | rfl | exact (Int.toNat_of_nonneg (by omega)).symm)) (fun hc => by (try simp at hc); omega)) rfl ?_) | refine lg rfl rfl (lop_slice_str (by first | exact W rfl id | exact E rfl) OB.none (OB.some (by first | exact W rfl id | exact E rfl) (fun _ => by first | rfl | exact (Int.toNat_of_nonneg (by omega)).symm)) (fun hc => by (try simp at hc); omega)) rfl ?_); exact k.h) : P := h ⟨k⟩
theorem z155 {P Q : Prop} (k : Q) (h : Hold Q → P := by intro k; (first | refine ln rfl rfl rfl rfl ?_ | (refine gy rfl rfl ?_; refine lo (lop_seql (by first | exact W rfl id | exact E rfl) (by first | exact W rfl id | exact E rfl)) rfl ?_) | refine lg rfl rfl (lop_seql (by first | exact W rfl id | exact E rfl) (by first | exact W rfl id | exact E rfl)) rfl ?_); exact k.h) : P := h ⟨k⟩
theorem z156 {P Q : Prop} (k : Q) (h : Hold Q → P := by intro k; (first | refine dln rfl rfl rfl rfl rfl ?_ | (refine dly rfl rfl rfl (lop_move (E rfl)) rfl ?_) | refine dlg rfl rfl rfl (lop_move (E rfl)) rfl ?_); exact k.h) : P := h ⟨k⟩
theorem z157 {P Q : Prop} (k : Q) (h : Hold Q → P := by intro k; (first | refine dln rfl rfl rfl rfl rfl ?_ | (first | refine dly rfl rfl rfl (lop_index_ro (by first | exact W rfl id | exact E rfl) (by first | exact W rfl id | exact E rfl) (fun hc => by (simp only [List.length_map]; omega))) rfl ?_ | refine dly rfl rfl rfl (lop_index_own0 (by first | exact W rfl id | exact E rfl) sgT (by first | exact W rfl id | exact E rfl) (fun hc => by omega)) rfl ?_ | refine dly rfl rfl rfl (lop_index_own (by first | exact W rfl id | exact E rfl) sgT (by first | exact W rfl id | exact E rfl) (fun hc => by omega)) rfl ?_) | refine dlg rfl rfl rfl (lop_index_ro (by first | exact W rfl id | exact E rfl) (by first | exact W rfl id | exact E rfl) (fun hc => by (try simp at hc) <;> (simp only [List.length_map]; omega))) rfl ?_ | refine dlg rfl rfl rfl (lop_index_own0 (by first | exact W rfl id | exact E rfl) sgT (by first | exact W rfl id | exact E rfl) (fun hc => by (try simp at hc) <;> omega)) rfl ?_ | refine dlg rfl rfl rfl (lop_index_own (by first | exact W rfl id | exact E rfl) sgT (by first | exact W rfl id | exact E rfl) (fun hc => by (try simp at hc) <;> omega)) rfl ?_); exact k.h) : P := h ⟨k⟩
theorem z158 {P Q : Prop} (k : Q) (h : Hold Q → P := by intro k; (first | refine dln rfl rfl rfl rfl rfl ?_ | (first | refine dly rfl rfl rfl (lop_load_el (by first | exact W rfl id | exact E rfl) rfl (fun hc => by first | rfl | exact get_map (by assumption) | assumption | exact get_map (at_bang (by omega))) (fun _ => rfl)) rfl ?_ | refine dly rfl rfl rfl (lop_load_ow (by first | exact W rfl id | exact E rfl) rfl sgT (fun hc => by first | rfl | exact get_map (by assumption) | assumption | exact get_map (at_bang (by omega))) (fun _ => rfl)) rfl ?_) | refine dlg rfl rfl rfl (lop_load_el (by first | exact W rfl id | exact E rfl) rfl (fun hc => by first | rfl | exact get_map (by assumption) | assumption | exact get_map (at_bang (by (try simp at hc) <;> omega))) (fun _ => rfl)) rfl ?_ | refine dlg rfl rfl rfl (lop_load_ow (by first | exact W rfl id | exact E rfl) rfl sgT (fun hc => by first | rfl | exact get_map (by assumption) | assumption | exact get_map (at_bang (by (try simp at hc) <;> omega))) (fun _ => rfl)) rfl ?_); exact k.h) : P := h ⟨k⟩
theorem z159 {P Q : Prop} (k : Q) (h : Hold Q → P := by intro k; (first | refine dln rfl rfl rfl rfl rfl ?_ | (refine dly rfl rfl rfl (lop_eql (by first | exact W rfl id | exact E rfl) (by first | exact W rfl id | exact E rfl)) rfl ?_) | refine dlg rfl rfl rfl (lop_eql (by first | exact W rfl id | exact E rfl) (by first | exact W rfl id | exact E rfl)) rfl ?_); exact k.h) : P := h ⟨k⟩
theorem z160 {P Q : Prop} (k : Q) (h : Hold Q → P := by intro k; (first | refine dlo rfl (lop_pick_t (E rfl) (by first | exact W rfl (by simp) | exact E rfl)) rfl ?_ | refine dlo rfl (lop_pick_f (E rfl) (E rfl)) rfl ?_ | refine dlo rfl (lop_pick (E rfl) (by first | exact W rfl (by simp) | exact E rfl) (E rfl)) rfl ?_); exact k.h) : P := h ⟨k⟩
theorem z161 {P Q : Prop} (k : Q) (h : Hold Q → P := by intro k; (first | refine dlo rfl (lop_field_el (E rfl) rfl (by decide)) rfl ?_ | refine dlo rfl (lop_field_ow (E rfl) rfl (by decide)) rfl ?_); exact k.h) : P := h ⟨k⟩
theorem z162 {P Q : Prop} (k : Q) (h : Hold Q → P := by intro k; (first | refine ln rfl rfl rfl rfl ?_ | (refine gy rfl rfl ?_; refine lo (lop_lss (by first | exact W rfl id | exact E rfl) (E rfl)) rfl ?_) | refine lg rfl rfl (lop_lss (by first | exact W rfl id | exact E rfl) (E rfl)) rfl ?_); exact k.h) : P := h ⟨k⟩
theorem z163 {P Q : Prop} (k : Q) (h : Hold Q → P := by intro k; (first | refine ln rfl rfl rfl rfl ?_ | (refine gy rfl rfl ?_; refine lo (lop_lss (by first | exact W rfl id | exact E rfl) (E rfl)) rfl ?_) | refine lg rfl rfl (lop_lss (by first | exact W rfl (by first | exact id | simp) | exact E rfl) (E rfl)) rfl ?_ | refine lw rfl rfl (lop_lss (by first | exact W rfl (by first | exact id | simp) | exact E rfl) (E rfl)) rfl ?_ | refine lw rfl rfl (lop_no (v := .bool false)) rfl ?_); exact k.h) : P := h ⟨k⟩
theorem z164 {P Q : Prop} (k : Q) (h : Hold Q → P := by intro k; (refine lo (lop_index_str (E rfl) (E rfl) (fun _ => by omega) (fun _ => by assumption) (fun _ => by assumption)) rfl ?_); exact k.h) : P := h ⟨k⟩
theorem z165 {P Q : Prop} (k : Q) (h : Hold Q → P := by intro k; (first | refine ln rfl rfl rfl rfl ?_ | (refine gy rfl rfl ?_; refine lo (lop_index_str (by first | exact W rfl id | exact E rfl) (by first | exact W rfl id | exact E rfl) (fun _ => by omega) (fun _ => by assumption) (fun _ => by assumption)) rfl ?_) | refine lg rfl rfl (lop_index_str (by first | exact W rfl id | exact E rfl) (by first | exact W rfl id | exact E rfl) (fun _ => by omega) (fun _ => by assumption) (fun _ => by assumption)) rfl ?_); exact k.h) : P := h ⟨k⟩
theorem z166 {P Q : Prop} (k : Q) (h : Hold Q → P := by intro k; (first | refine ln rfl rfl rfl rfl ?_ | (refine gy rfl rfl ?_; (first | refine lo (lop_add64 (by first | exact W rfl id | exact E rfl) (by first | exact W rfl id | exact E rfl) (by omega) (by omega)) rfl ?_ | refine lo (lop_add (by first | exact W rfl id | exact E rfl) (by first | exact W rfl id | exact E rfl)) rfl ?_)) | refine lg rfl rfl (lop_add64 (by first | exact W rfl id | exact E rfl) (by first | exact W rfl id | exact E rfl) (by omega) (by omega)) rfl ?_ | refine lg rfl rfl (lop_add64c (by first | exact W rfl id | exact E rfl) (by first | exact W rfl id | exact E rfl) (fun hc => by simp at hc <;> first | omega | (have hov := hov hc; omega))) rfl ?_ | refine lg rfl rfl (lop_add (by first | exact W rfl id | exact E rfl) (by first | exact W rfl id | exact E rfl)) rfl ?_); exact k.h) : P := h ⟨k⟩
theorem z167 {P Q : Prop} (k : Q) (h : Hold Q → P := by intro k; (first | refine ln rfl rfl rfl rfl ?_ | (refine gy rfl rfl ?_; refine lo (lop_neq (by first | exact W rfl id | exact E rfl) (by first | exact W rfl id | exact E rfl)) rfl ?_) | refine lg rfl rfl (lop_neq (by first | exact W rfl id | exact E rfl) (by first | exact W rfl id | exact E rfl)) rfl ?_); exact k.h) : P := h ⟨k⟩
theorem z168 {P Q : Prop} (k : Q) (h : Hold Q → P := by intro k; (first | refine dln rfl rfl rfl rfl rfl ?_ | (first | refine dly rfl rfl rfl (lop_field_ptr (E rfl) rfl (by decide)) rfl ?_ | refine dly rfl rfl rfl (lop_field_el (E rfl) rfl (by decide)) rfl ?_) | refine dlg rfl rfl rfl (lop_field_ptr (E rfl) rfl (by decide)) rfl ?_ | refine dlg rfl rfl rfl (lop_field_el (E rfl) rfl (by decide)) rfl ?_); exact k.h) : P := h ⟨k⟩
theorem z169 {P Q : Prop} (k : Q) (h : Hold Q → P := by intro k; (first | refine dln rfl rfl rfl rfl rfl ?_ | (first | refine dly rfl rfl rfl (lop_load_ptr (by first | exact W rfl id | exact E rfl) rfl sgT (fun _ => rfl)) rfl ?_ | refine dly rfl rfl rfl (lop_load_ptr (by first | exact W rfl id | exact E rfl) rfl sgT (fun _ => by assumption)) rfl ?_ | refine dly rfl rfl rfl (lop_load_el (by first | exact W rfl id | exact E rfl) rfl (fun hc => by first | rfl | exact get_map (by assumption) | assumption | exact get_map (at_bang (by omega))) (fun _ => rfl)) rfl ?_) | refine dlg rfl rfl rfl (lop_load_ptr (by first | exact W rfl id | exact E rfl) rfl sgT (fun _ => rfl)) rfl ?_ | refine dlg rfl rfl rfl (lop_load_ptr (by first | exact W rfl id | exact E rfl) rfl sgT (fun _ => by assumption)) rfl ?_ | refine dlg rfl rfl rfl (lop_load_el (by first | exact W rfl id | exact E rfl) rfl (fun hc => by first | rfl | exact get_map (by assumption) | assumption | exact get_map (at_bang (by (try simp at hc) <;> omega))) (fun _ => rfl)) rfl ?_); exact k.h) : P := h ⟨k⟩
theorem z170 {P Q : Prop} (k : Q) (h : Hold Q → P := by intro k; (first | refine dln rfl rfl rfl rfl rfl ?_ | (first | refine dly rfl rfl rfl (lop_field_el (by first | exact W rfl id | exact E rfl) rfl (by decide)) rfl ?_ | refine dly rfl rfl rfl (lop_field_ow (by first | exact W rfl id | exact E rfl) rfl (by decide)) rfl ?_) | refine dlg rfl rfl rfl (lop_field_el (by first | exact W rfl id | exact E rfl) rfl (by decide)) rfl ?_ | refine dlg rfl rfl rfl (lop_field_ow (by first | exact W rfl id | exact E rfl) rfl (by decide)) rfl ?_); exact k.h) : P := h ⟨k⟩
theorem z171 {P Q : Prop} (k : Q) (h : Hold Q → P := by intro k; (first | refine dln rfl rfl rfl rfl rfl ?_ | (refine dly rfl rfl rfl (lop_not (by first | exact W rfl id | exact E rfl)) rfl ?_) | refine dlg rfl rfl rfl (lop_not (by first | exact W rfl id | exact E rfl)) rfl ?_); exact k.h) : P := h ⟨k⟩
theorem z172 {P Q : Prop} (k : Q) (h : Hold Q → P := by intro k; (first | refine dlo rfl (lop_pick_t (E rfl) (E rfl)) rfl ?_ | refine dlo rfl (lop_pick_f (E rfl) (by first | exact W rfl (by simp) | exact E rfl)) rfl ?_ | refine dlo rfl (lop_pick (E rfl) (E rfl) (by first | exact W rfl (by simp) | exact E rfl)) rfl ?_); exact k.h) : P := h ⟨k⟩
theorem z173 {P Q : Prop} (k : Q) (h : Hold Q → P := by intro k; (first | refine dln rfl rfl rfl rfl rfl ?_ | (first | refine dly rfl rfl rfl (lop_bytes_ro (by first | exact W rfl id | exact E rfl)) rfl ?_ | refine dly rfl rfl rfl (lop_text_own (by first | exact W rfl id | exact E rfl)) rfl ?_) | refine dlg rfl rfl rfl (lop_bytes_ro (by first | exact W rfl id | exact E rfl)) rfl ?_ | refine dlg rfl rfl rfl (lop_text_own (by first | exact W rfl id | exact E rfl)) rfl ?_); exact k.h) : P := h ⟨k⟩
theorem z174 {P Q : Prop} (k : Q) (h : Hold Q → P := by intro k; (first | refine dln rfl rfl rfl rfl rfl ?_ | (refine dly rfl rfl rfl (lop_sneq (by first | exact W rfl id | exact E rfl) (by first | exact W rfl id | exact E rfl)) rfl ?_) | refine dlg rfl rfl rfl (lop_sneq (by first | exact W rfl id | exact E rfl) (by first | exact W rfl id | exact E rfl)) rfl ?_); exact k.h) : P := h ⟨k⟩
theorem z175 {P Q : Prop} (k : Q) (h : Hold Q → P := by intro k; (first | refine ln rfl rfl rfl rfl ?_ | (refine gy rfl rfl ?_; refine lo (lop_sneq (by first | exact W rfl id | exact E rfl) (by first | exact W rfl id | exact E rfl)) rfl ?_) | refine lg rfl rfl (lop_sneq (by first | exact W rfl id | exact E rfl) (by first | exact W rfl id | exact E rfl)) rfl ?_); exact k.h) : P := h ⟨k⟩
theorem z176 {P Q : Prop} (k : Q) (h : Hold Q → P := by intro k; (refine dlo rfl (lop_sneq (E rfl) (E rfl)) rfl ?_); exact k.h) : P := h ⟨k⟩
theorem z177 {P Q : Prop} (k : Q) (h : Hold Q → P := by intro k; (first | refine dln rfl rfl rfl rfl rfl ?_ | (refine dly rfl rfl rfl (lop_neq (by first | exact W rfl id | exact E rfl) (by first | exact W rfl id | exact E rfl)) rfl ?_) | refine dlg rfl rfl rfl (lop_neq (by first | exact W rfl id | exact E rfl) (by first | exact W rfl id | exact E rfl)) rfl ?_); exact k.h) : P := h ⟨k⟩
theorem z178 {P Q : Prop} (k : Q) (h : Hold Q → P := by intro k; (first | refine ln rfl rfl rfl rfl ?_ | (refine gy rfl rfl ?_; refine lo (lop_str (by repeat (first | exact PEvs.nil | (apply PEvs.cons; first | exact W rfl id | exact E rfl))) (by (exact zcT)) (by repeat (first | exact Fill.nil | (apply Fill.cons; rfl; rfl; rfl; (exact putT_))))) rfl ?_) | refine lg rfl rfl (lop_str (by repeat (first | exact PEvs.nil | (apply PEvs.cons; first | exact W rfl id | exact E rfl))) (by (exact zcT)) (by repeat (first | exact Fill.nil | (apply Fill.cons; rfl; rfl; rfl; (exact putT_))))) rfl ?_); exact k.h) : P := h ⟨k⟩
theorem z179 {P Q : Prop} (k : Q) (h : Hold Q → P := by intro k; ((refine gy rfl rfl ?_; apply bs; (exact aevtT); rfl; rfl; rfl; rfl; (exact zcT); rfl)); exact k.h) : P := h ⟨k⟩
theorem z180 {P Q : Prop} (k : Q) (h : Hold Q → P := by intro k; (refine dlo rfl (lop_bneq (E rfl) (E rfl)) rfl ?_); exact k.h) : P := h ⟨k⟩
theorem z181 {P Q : Prop} (k : Q) (h : Hold Q → P := by intro k; (first | refine dln rfl rfl rfl rfl rfl ?_ | (first | refine dly rfl rfl rfl (lop_load_ptr_agg (E rfl) rfl sgT (fun _ => Nat.le_of_ble_eq_true rfl)) rfl ?_ | refine dly rfl rfl rfl (lop_load_el_agg (E rfl) rfl (fun hc => by first | rfl | exact get_map (by assumption) | assumption | exact get_map (at_bang (by omega))) (fun _ => Nat.le_of_ble_eq_true rfl)) rfl ?_) | refine dlg rfl rfl rfl (lop_load_ptr_agg (E rfl) rfl sgT (fun _ => Nat.le_of_ble_eq_true rfl)) rfl ?_ | refine dlg rfl rfl rfl (lop_load_el_agg (E rfl) rfl (fun hc => by first | rfl | exact get_map (by assumption) | assumption | exact get_map (at_bang (by (try simp at hc) <;> omega))) (fun _ => Nat.le_of_ble_eq_true rfl)) rfl ?_); exact k.h) : P := h ⟨k⟩
theorem z182 {P Q : Prop} (k : Q) (h : Hold Q → P := by intro k; (first | refine dln rfl rfl rfl rfl rfl ?_ | (refine dly rfl rfl rfl (lop_bneq (by first | exact W rfl id | exact E rfl) (by first | exact W rfl id | exact E rfl)) rfl ?_) | refine dlg rfl rfl rfl (lop_bneq (by first | exact W rfl id | exact E rfl) (by first | exact W rfl id | exact E rfl)) rfl ?_); exact k.h) : P := h ⟨k⟩
theorem z183 {P Q : Prop} (k : Q) (h : Hold Q → P := by intro k; (first | refine dlo rfl (lop_bytes_ro (E rfl)) rfl ?_ | refine dlo rfl (lop_text_own (E rfl)) rfl ?_); exact k.h) : P := h ⟨k⟩
theorem z184 {P Q : Prop} (k : Q) (h : Hold Q → P := by intro k; (first | refine dln rfl rfl rfl rfl rfl ?_ | (refine dly rfl rfl rfl (lop_neq (by first | exact W rfl id | exact E rfl) (E rfl)) rfl ?_) | refine dlg rfl rfl rfl (lop_neq (by first | exact W rfl id | exact E rfl) (E rfl)) rfl ?_); exact k.h) : P := h ⟨k⟩
theorem z185 {P Q : Prop} (k : Q) (h : Hold Q → P := by intro k; (first | refine dln rfl rfl rfl rfl rfl ?_ | (refine dly rfl rfl rfl (lop_seql (by first | exact W rfl id | exact E rfl) (by first | exact W rfl id | exact E rfl)) rfl ?_) | refine dlg rfl rfl rfl (lop_seql (by first | exact W rfl id | exact E rfl) (by first | exact W rfl id | exact E rfl)) rfl ?_); exact k.h) : P := h ⟨k⟩
theorem z186 {P Q : Prop} (k : Q) (h : Hold Q → P := by intro k; (first | refine dln rfl rfl rfl rfl rfl ?_ | (refine dly rfl rfl rfl (lop_beql (by first | exact W rfl id | exact E rfl) (by first | exact W rfl id | exact E rfl)) rfl ?_) | refine dlg rfl rfl rfl (lop_beql (by first | exact W rfl id | exact E rfl) (by first | exact W rfl id | exact E rfl)) rfl ?_); exact k.h) : P := h ⟨k⟩
end Go.Proofs.Ytjpdadobblffmaa
/-
  Plain: numbers as bytes, and back.
-/
namespace Go.Proofs.Ytjpdadobblffmaa
open Go.RowKit Go.ChangeShapes Go.WideShapes Go.ChangeAt Go.Deep
def uB (n : Nat) : List Nat := if h : n < 128 then [n] else (n % 128 + 128) :: uB (n / 128)
termination_by n
decreasing_by omega
theorem uB_lo {n : Nat} (h : n < 128) : uB n = [n] := by rw [uB, dif_pos h]
theorem uB_hi {n : Nat} (h : ¬ n < 128) : uB n = (n % 128 + 128) :: uB (n / 128) := by rw [uB, dif_neg h]
theorem uB_lt (n : Nat) : ∀ x ∈ uB n, x < 256 := by
  induction n using Nat.strongRecOn with
  | _ n ih =>
    by_cases h : n < 128
    · rw [uB_lo h]; simp; omega
    · rw [uB_hi h]
      intro x hx
      rcases List.mem_cons.1 hx with rfl | hx
      · omega
      · exact ih (n / 128) (by omega) x hx
theorem uB_pos (n : Nat) : 1 ≤ (uB n).length := by
  by_cases h : n < 128
  · rw [uB_lo h]; simp
  · rw [uB_hi h]; simp
theorem uB_len : ∀ (k n : Nat), n < 128 ^ (k + 1) → (uB n).length ≤ k + 1
  | 0, n, h => by rw [uB_lo (by simpa using h)]; simp
  | k + 1, n, h => by
    by_cases hn : n < 128
    · rw [uB_lo hn]; simp
    · rw [uB_hi hn, List.length_cons]
      have := uB_len k (n / 128) (by rw [Nat.pow_succ] at h; exact Nat.div_lt_of_lt_mul (by omega))
      omega
def valU : List Nat → Nat
  | [] => 0
  | b :: t => b % 128 + 128 * valU t
theorem valU_uB (n : Nat) : valU (uB n) = n := by
  induction n using Nat.strongRecOn with
  | _ n ih =>
    by_cases h : n < 128
    · rw [uB_lo h]; simp [valU]; omega
    · rw [uB_hi h, valU, ih (n / 128) (by omega)]; omega
theorem valU_lt : ∀ (l : List Nat), valU l < 128 ^ l.length
  | [] => by simp [valU]
  | b :: t => by
    have := valU_lt t
    rw [valU, List.length_cons, Nat.pow_succ]
    omega
/-- how many bytes a number has at the beginning; 1: no number, 2: more bytes are wanted -/
def lenB : List Nat → Nat → Nat × Int
  | _, 0 => (0, 1)
  | [], _ + 1 => (0, 2)
  | b :: t, m + 1 => if b < 128 then (1, 0) else (if (lenB t m).2 = 0 then ((lenB t m).1 + 1, 0) else lenB t m)
theorem lenB_ok : ∀ (bs : List Nat) (m : Nat), (lenB bs m).2 = 0 → 1 ≤ (lenB bs m).1 ∧ (lenB bs m).1 ≤ m ∧ (lenB bs m).1 ≤ bs.length
  | bs, 0, h => by cases bs <;> simp [lenB] at h
  | [], _ + 1, h => by simp [lenB] at h
  | b :: t, m + 1, h => by
    have ih := lenB_ok t m
    rw [lenB] at h ⊢
    by_cases hb : b < 128
    · rw [if_pos hb]; simp
    · rw [if_neg hb] at h ⊢
      by_cases h2 : (lenB t m).2 = 0
      · rw [if_pos h2]
        have := ih h2
        simp
        omega
      · rw [if_neg h2] at h; exact absurd h h2
theorem lenB_uB (rest : List Nat) : ∀ (m n : Nat), (uB n).length ≤ m → lenB (uB n ++ rest) m = ((uB n).length, 0)
  | 0, n, h => by have := uB_pos n; omega
  | m + 1, n, h => by
    by_cases hn : n < 128
    · rw [uB_lo hn]; simp [lenB, hn]
    · rw [uB_hi hn] at h ⊢
      rw [List.cons_append, lenB, if_neg (by omega), lenB_uB rest m (n / 128) (by simpa using h)]
      simp
/-- an unsigned number of 32 bits at the beginning -/
def getU (bs : List Nat) : Nat × Nat × Int :=
  if (lenB bs 5).2 ≠ 0 then (0, 0, (lenB bs 5).2)
  else if uB (valU (bs.take (lenB bs 5).1)) = bs.take (lenB bs 5).1 ∧ valU (bs.take (lenB bs 5).1) < 4294967296 then (valU (bs.take (lenB bs 5).1), (lenB bs 5).1, 0) else (0, 0, 1)
theorem getU_uB {n : Nat} (hn : n < 4294967296) (rest : List Nat) : getU (uB n ++ rest) = (n, (uB n).length, 0) := by
  have hl := uB_len 4 n (by omega)
  unfold getU
  rw [lenB_uB rest 5 n hl]
  simp only [ne_eq, not_true_eq_false, if_false]
  rw [List.take_left, valU_uB, if_pos ⟨rfl, hn⟩]
theorem getU_bd (bs : List Nat) : (getU bs).1 < 4294967296 ∧ (getU bs).2.1 ≤ bs.length ∧ (getU bs).2.1 ≤ 5 := by
  unfold getU
  split
  · simp
  · next h =>
    have := lenB_ok bs 5 (by simpa using h)
    split
    · next h2 => exact ⟨h2.2, this.2.2, this.2.1⟩
    · simp
def sB (n : Int) : List Nat := if h : -64 ≤ n ∧ n ≤ 63 then [(n % 128).toNat] else ((n % 128).toNat + 128) :: sB (n / 128)
termination_by n.natAbs
decreasing_by omega
theorem sB_lo {n : Int} (h : -64 ≤ n ∧ n ≤ 63) : sB n = [(n % 128).toNat] := by rw [sB, dif_pos h]
theorem sB_hi {n : Int} (h : ¬ (-64 ≤ n ∧ n ≤ 63)) : sB n = ((n % 128).toNat + 128) :: sB (n / 128) := by rw [sB, dif_neg h]
theorem sB_pos (n : Int) : 1 ≤ (sB n).length := by
  by_cases h : -64 ≤ n ∧ n ≤ 63
  · rw [sB_lo h]; simp
  · rw [sB_hi h]; simp
theorem sB_lt (m : Nat) : ∀ (n : Int), n.natAbs ≤ m → ∀ x ∈ sB n, x < 256 := by
  induction m with
  | zero => intro n hn; rw [sB_lo (by omega)]; simp; omega
  | succ m ih =>
    intro n hn
    by_cases h : -64 ≤ n ∧ n ≤ 63
    · rw [sB_lo h]; simp; omega
    · rw [sB_hi h]
      intro x hx
      rcases List.mem_cons.1 hx with rfl | hx
      · omega
      · exact ih (n / 128) (by omega) x hx
theorem sB_len : ∀ (k : Nat) (n : Int), -(64 * 128 ^ k : Nat) ≤ n → n < (64 * 128 ^ k : Nat) → (sB n).length ≤ k + 1
  | 0, n, h, h' => by rw [sB_lo (by simp at h h'; omega)]; simp
  | k + 1, n, h, h' => by
    by_cases hn : -64 ≤ n ∧ n ≤ 63
    · rw [sB_lo hn]; simp
    · rw [sB_hi hn, List.length_cons]
      have e : (64 * 128 ^ (k + 1) : Nat) = 128 * (64 * 128 ^ k) := by rw [Nat.pow_succ]; omega
      rw [e] at h h'
      have := sB_len k (n / 128) (by omega) (by omega)
      omega
theorem lenB_sB (rest : List Nat) : ∀ (m : Nat) (n : Int), (sB n).length ≤ m → lenB (sB n ++ rest) m = ((sB n).length, 0)
  | 0, n, h => by have := sB_pos n; omega
  | m + 1, n, h => by
    by_cases hn : -64 ≤ n ∧ n ≤ 63
    · rw [sB_lo hn]
      rw [List.cons_append, lenB, if_pos (by omega)]
      rfl
    · rw [sB_hi hn] at h ⊢
      rw [List.cons_append, lenB, if_neg (by omega), lenB_sB rest m (n / 128) (by simpa using h)]
      simp
/-- a signed number out of bytes, as 64 bits go round -/
def valS : List Nat → Int
  | [] => 0
  | [b] => if 64 ≤ b % 128 then ((b % 128 : Nat) : Int) - 128 else ((b % 128 : Nat) : Int)
  | b :: c :: t => IntKind.i64.wrap (valS (c :: t) * 128 + ((b % 128 : Nat) : Int))
theorem valS_cons (b : Nat) {t : List Nat} (h : 1 ≤ t.length) : valS (b :: t) = IntKind.i64.wrap (valS t * 128 + ((b % 128 : Nat) : Int)) := by
  cases t with
  | nil => simp at h
  | cons c t => rfl
theorem valS_sB (m : Nat) : ∀ (n : Int), n.natAbs ≤ m → -9223372036854775808 ≤ n → n ≤ 9223372036854775807 → valS (sB n) = n := by
  induction m with
  | zero => intro n hn _ _; rw [sB_lo (by omega)]; simp [valS]; omega
  | succ m ih =>
    intro n hn h1 h2
    by_cases h : -64 ≤ n ∧ n ≤ 63
    · rw [sB_lo h, valS]
      split <;> omega
    · rw [sB_hi h, valS_cons _ (sB_pos _), ih (n / 128) (by omega) (by omega) (by omega)]
      rw [IntKind.wrap_i64]
      omega
def mostS (bits : Nat) : Nat := (bits + 6) / 7
def getS (bits : Nat) (bs : List Nat) : Int × Nat × Int :=
  if (lenB bs (mostS bits)).2 ≠ 0 then (0, 0, (lenB bs (mostS bits)).2)
  else if sB (valS (bs.take (lenB bs (mostS bits)).1)) = bs.take (lenB bs (mostS bits)).1 ∧ (bits = 32 → -2147483648 ≤ valS (bs.take (lenB bs (mostS bits)).1) ∧ valS (bs.take (lenB bs (mostS bits)).1) ≤ 2147483647) then (valS (bs.take (lenB bs (mostS bits)).1), (lenB bs (mostS bits)).1, 0) else (0, 0, 1)
theorem getS_sB {bits : Nat} (hb : bits = 32 ∨ bits = 64) {n : Int} (h1 : -9223372036854775808 ≤ n) (h2 : n ≤ 9223372036854775807) (h3 : bits = 32 → -2147483648 ≤ n ∧ n ≤ 2147483647) (rest : List Nat) : getS bits (sB n ++ rest) = (n, (sB n).length, 0) := by
  have hl : (sB n).length ≤ mostS bits := by
    rcases hb with rfl | rfl
    · have := h3 rfl; exact sB_len 4 n (by omega) (by omega)
    · exact sB_len 9 n (by omega) (by omega)
  unfold getS
  rw [lenB_sB rest _ n hl]
  simp only [ne_eq, not_true_eq_false, if_false]
  rw [List.take_left, valS_sB n.natAbs n (Nat.le_refl _) h1 h2, if_pos ⟨rfl, h3⟩]
theorem getS_bd (bits : Nat) (bs : List Nat) : (getS bits bs).2.1 ≤ bs.length := by
  unfold getS
  split
  · simp
  · next h =>
    have := lenB_ok bs (mostS bits) (by simpa using h)
    split
    · exact this.2.2
    · simp
end Go.Proofs.Ytjpdadobblffmaa
/-
  Package leb, and what the document says of it: each function appends, or reads, what LebP says.
-/
namespace Go.Proofs.Ytjpdadobblffmaa
open Go.RowKit Go.ChangeShapes Go.WideShapes Go.ChangeAt Go.Deep
attribute [local irreducible] SW RS RD AThen ABlock
theorem snoc_encU {l : List Nat} {x : Nat} : l.map encU ++ [[.int .u8 x]] = (l ++ [x]).map encU := by simp [encU]
theorem u8_nat {x : Nat} (h : x < 256) : (BitVec.ofInt IntKind.u8.bits (x : Int)).toNat = x := by
  rw [BitVec.toNat_ofInt]; simp [IntKind.bits]; omega
set_option maxRecDepth 100000 in
theorem u8_or128 {x : Nat} (h : x < 256) : IntKind.u8.wrap ↑(BitVec.ofInt IntKind.u8.bits (x : Int) ||| BitVec.ofInt IntKind.u8.bits 128).toNat = ((x % 128 + 128 : Nat) : Int) := by
  have h1 : ∀ x < 256, x ||| 128 = x % 128 + 128 := by decide
  rw [BitVec.toNat_or, u8_nat h, show (BitVec.ofInt IntKind.u8.bits 128).toNat = 128 by decide, h1 x h, IntKind.wrap_u8]
  omega
theorem shr7 {m : Nat} : (m : Int).fdiv (2 ^ min (Int.toNat 7) IntKind.u64.bits) = ((m / 128 : Nat) : Int) := by
  have : (2 : Int) ^ min (Int.toNat 7) IntKind.u64.bits = 128 := by decide
  rw [this, Int.fdiv_eq_ediv_of_nonneg _ (by omega)]
  omega
theorem u8_wrapn (m : Nat) : IntKind.u8.wrap (m : Int) = ((m % 256 : Nat) : Int) := by rw [IntKind.wrap_u8]; omega
theorem or_step (m : Nat) : IntKind.u8.wrap ↑(BitVec.ofInt IntKind.u8.bits (IntKind.u8.wrap (m : Int)) ||| BitVec.ofInt IntKind.u8.bits 128).toNat = ((m % 128 + 128 : Nat) : Int) := by
  rw [u8_wrapn m, u8_or128 (by omega)]
  omega
theorem uB_len10 {n : Nat} (h : n < 18446744073709551616) : (uB n).length ≤ 10 := uB_len 9 n (by omega)
set_option maxRecDepth 100000 in
theorem leb_putU (q : Nat) (vs : List Nat) (hb : vs.length ≤ 100000000) (n : Nat) (hn : n < 18446744073709551616) : SCall Try.prog 14 [.own q 0 vs.length, .int .u64 n] [(q, .arr 5 1 (vs.map encU))]
    (fun x σ => ∃ r, x = .own r 0 (vs ++ uB n).length ∧ σ = [(r, .arr 5 1 ((vs ++ uB n).map encU))]) := by
  have hL := uB_len10 hn
  refine scall_of (n := 20) (ks := [0, 1, 4, 6]) Try.func14 rfl rfl (Nat.le_of_ble_eq_true rfl) ?_
  (refine ctlT ?_)
  refine rgT ?_
  refine lo (lop_assign (E rfl)) rfl ?_
  refine leT ?_
  (refine ctlT ?_)
  refine scj (β := Nat × List Nat × Nat) 0 rfl (fun b => ⟨[(0, .own b.1 0 b.2.1.length), (1, .int .u64 b.2.2)], [(b.1, .arr 5 1 (b.2.1.map encU))]⟩) (fun b => b.2.1 ++ uB b.2.2 = vs ++ uB n ∧ b.2.2 < 18446744073709551616) (fun b => b.2.2) ?_ (fun P => ?_)
  · rintro ⟨r, us, m⟩ ⟨he, hm⟩
    simp only at he hm ⊢
    have hcl : us.length + (uB m).length = vs.length + (uB n).length := by rw [← List.length_append, he, List.length_append]
    have hup := uB_pos m
    (refine ctlT ?_)
    refine rgT ?_
    refine lo (lop_move (E rfl)) rfl ?_
    refine lo (lop_lss (E rfl) (E rfl)) rfl ?_
    refine leT ?_
    (refine ctlT ?_)
    refine sw_cond rfl (fun h => ?_) (fun h => ?_)
    · have h1 : m < 128 := by simp at h; omega
      rw [uB_lo h1] at he
      (refine ctlT ?_)
      refine rgT ?_
      refine lo (lop_move (E rfl)) rfl ?_
      refine lo (lop_move (E rfl)) rfl ?_
      refine z0 ?_
      refine z1 ?_; refine freshT fun r10 h10 => ?_; (repeat (rcases h10 with ⟨_, h10⟩))
      apply ap (es' := (vs ++ uB n).map encU) (len' := (vs ++ uB n).length); rfl; rfl; (exact sgT)
      · simp
      · exact .inr (.inr ⟨_, _, _, _, _, rfl, sgT, by simp, rfl⟩)
      · rw [← he, ← snoc_encU]; rfl
      · rw [← he]; simp
      · simp [maxLen]; omega
      · simp; omega
      · rfl
      refine apnT fun r11 h11 => ?_; (repeat (rcases h11 with ⟨_, h11⟩))
      refine lo (lop_assign (E rfl)) rfl ?_
      refine leT ?_
      (refine ctlT ?_)
      (refine ctgT ?_)
      (apply aend; (exact resT))
      · exact ⟨r11, rfl, rfl⟩
      · (exact stleT)
    · have h1 : ¬ m < 128 := by simp at h; omega
      have hcl2 : us.length + (uB (m / 128)).length + 1 = vs.length + (uB n).length := by rw [uB_hi h1] at hcl; simp at hcl; omega
      rw [uB_hi h1] at he
      (refine ctlT ?_)
      refine rgT ?_
      refine lo (lop_move (E rfl)) rfl ?_
      refine lo (lop_move (E rfl)) rfl ?_
      refine z0 ?_
      refine lo (lop_or (E rfl) (E rfl)) rfl ?_
      refine z1 ?_; refine freshT fun r16 h16 => ?_; (repeat (rcases h16 with ⟨_, h16⟩))
      apply ap (es' := (us ++ [m % 128 + 128]).map encU) (len' := (us ++ [m % 128 + 128]).length); rfl; rfl; (exact sgT)
      · simp
      · exact .inr (.inr ⟨_, _, _, _, _, rfl, sgT, by simp, rfl⟩)
      · rw [← snoc_encU, or_step]; rfl
      · simp
      · simp [maxLen]; omega
      · simp; omega
      · rfl
      refine apnT fun r17 h17 => ?_; (repeat (rcases h17 with ⟨_, h17⟩))
      refine lo (lop_assign (E rfl)) rfl ?_
      refine leT ?_
      (refine ctlT ?_)
      refine rgT ?_
      refine lo (lop_move (E rfl)) rfl ?_
      refine z2 ?_
      refine lo (lop_assign (E rfl)) rfl ?_
      refine leT ?_
      (refine ctlT ?_)
      (refine ctgT ?_)
      rw [shr7]
      refine ⟨(r17, us ++ [m % 128 + 128], m / 128), ⟨?_, ?_⟩, ?_, ?_⟩
      · simpa using he
      · show m / 128 < _; omega
      · show m / 128 < m; omega
      · (exact sgoT)
  · refine P (q, vs, n) _ ⟨rfl, hn⟩ ?_
    (exact sgoT)
/-! ### signed -/
theorem u8_wrapi (n : Int) : IntKind.u8.wrap n = ((n % 256).toNat : Int) := by rw [IntKind.wrap_u8]; omega
set_option maxRecDepth 100000 in
theorem u8_andn128 {x : Nat} (h : x < 256) : IntKind.u8.wrap ↑(BitVec.ofInt IntKind.u8.bits (x : Int) &&& ~~~BitVec.ofInt IntKind.u8.bits 128).toNat = ((x % 128 : Nat) : Int) := by
  have h1 : ∀ x < 256, x &&& 127 = x % 128 := by decide
  rw [BitVec.toNat_and, u8_nat h, show (~~~BitVec.ofInt IntKind.u8.bits 128).toNat = 127 by decide, h1 x h, IntKind.wrap_u8]
  omega
set_option maxRecDepth 100000 in
theorem u8_and64 {x : Nat} (h : x < 128) : IntKind.u8.wrap ↑(BitVec.ofInt IntKind.u8.bits (x : Int) &&& BitVec.ofInt IntKind.u8.bits 64).toNat = if x < 64 then 0 else 64 := by
  have h1 : ∀ x < 128, x &&& 64 = if x < 64 then 0 else 64 := by decide
  rw [BitVec.toNat_and, u8_nat (by omega), show (BitVec.ofInt IntKind.u8.bits 64).toNat = 64 by decide, h1 x h, IntKind.wrap_u8]
  split <;> rfl
def cS (n : Int) : Nat := (n % 128).toNat
theorem cS_lt (n : Int) : cS n < 128 := by unfold cS; omega
theorem andn_step (n : Int) : IntKind.u8.wrap ↑(BitVec.ofInt IntKind.u8.bits (IntKind.u8.wrap n) &&& ~~~BitVec.ofInt IntKind.u8.bits 128).toNat = (cS n : Int) := by
  rw [u8_wrapi n, u8_andn128 (by omega)]
  unfold cS
  omega
theorem orS_step (n : Int) : IntKind.u8.wrap ↑(BitVec.ofInt IntKind.u8.bits (cS n : Int) ||| BitVec.ofInt IntKind.u8.bits 128).toNat = ((cS n + 128 : Nat) : Int) := by
  have := cS_lt n
  rw [u8_or128 (by omega)]
  omega
theorem shr7i {m : Int} : m.fdiv (2 ^ min (Int.toNat 7) IntKind.i64.bits) = m / 128 := by
  have : (2 : Int) ^ min (Int.toNat 7) IntKind.i64.bits = 128 := by decide
  rw [this, Int.fdiv_eq_ediv_of_nonneg _ (by omega)]
set_option maxRecDepth 100000 in
theorem leb_putS (q : Nat) (vs : List Nat) (hb : vs.length ≤ 100000000) (n : Int) (hn : -9223372036854775808 ≤ n ∧ n ≤ 9223372036854775807) : SCall Try.prog 15 [.own q 0 vs.length, .int .i64 n] [(q, .arr 5 1 (vs.map encU))]
    (fun x σ => ∃ r, x = .own r 0 (vs ++ sB n).length ∧ σ = [(r, .arr 5 1 ((vs ++ sB n).map encU))]) := by
  have hL : (sB n).length ≤ 10 := sB_len 9 n (by omega) (by omega)
  refine scall_of (n := 36) (ks := [0, 1, 4, 5, 26]) Try.func15 rfl rfl (Nat.le_of_ble_eq_true rfl) ?_
  (refine ctlT ?_)
  refine rgT ?_
  refine lo (lop_assign (E rfl)) rfl ?_
  refine leT ?_
  (refine ctlT ?_)
  refine scj (β := Nat × List Nat × Int) 0 rfl (fun b => ⟨[(0, .own b.1 0 b.2.1.length), (1, .int .i64 b.2.2)], [(b.1, .arr 5 1 (b.2.1.map encU))]⟩) (fun b => b.2.1 ++ sB b.2.2 = vs ++ sB n ∧ -9223372036854775808 ≤ b.2.2 ∧ b.2.2 ≤ 9223372036854775807) (fun b => b.2.2.natAbs) ?_ (fun P => ?_)
  · rintro ⟨r, us, m⟩ ⟨he, hm, hm2⟩
    simp only at he hm hm2 ⊢
    have hcl : us.length + (sB m).length = vs.length + (sB n).length := by rw [← List.length_append, he, List.length_append]
    have hup := sB_pos m
    have hc7 := cS_lt m
    (refine ctlT ?_)
    refine rgT ?_
    refine lo (lop_move (E rfl)) rfl ?_
    refine z0 ?_
    refine z3 ?_
    refine lo (lop_assign (E rfl)) rfl ?_
    refine leT ?_
    (refine ctlT ?_)
    rw [andn_step]
    refine rgT ?_
    refine lo (lop_move (E rfl)) rfl ?_
    refine z2 ?_
    refine lo (lop_assign (E rfl)) rfl ?_
    refine leT ?_
    (refine ctlT ?_)
    rw [shr7i]
    refine rgT ?_
    refine lo (lop_move (E rfl)) rfl ?_
    refine lo (lop_eql (E rfl) (E rfl)) rfl ?_
    refine lo (lop_move (E rfl)) rfl ?_
    refine z4 ?_
    refine z5 ?_
    refine z6 ?_
    refine z7 ?_
    refine lo (lop_move (E rfl)) rfl ?_
    refine z4 ?_
    refine z6 ?_
    refine z8 ?_
    refine z9 ?_
    refine z10 ?_
    refine z11 ?_
    refine z12 ?_
    refine z13 ?_
    refine leT ?_
    (refine ctlT ?_)
    rw [u8_and64 hc7]
    have hb64 : (-64 ≤ m ∧ m ≤ 63) ↔ (m / 128 = 0 ∧ cS m < 64 ∨ m / 128 = -1 ∧ ¬ cS m < 64) := by unfold cS; omega
    refine sw_cond rfl (fun h => ?_) (fun h => ?_)
    · have h1 : -64 ≤ m ∧ m ≤ 63 := by
        rw [hb64]
        by_cases h6 : cS m < 64 <;> simp [h6] at h ⊢ <;> omega
      rw [sB_lo h1] at he
      (refine ctlT ?_)
      refine rgT ?_
      refine lo (lop_move (E rfl)) rfl ?_
      refine lo (lop_move (E rfl)) rfl ?_
      refine z1 ?_; refine freshT fun r29 h29 => ?_; (repeat (rcases h29 with ⟨_, h29⟩))
      apply ap (es' := (vs ++ sB n).map encU) (len' := (vs ++ sB n).length); rfl; rfl; (exact sgT)
      · simp
      · exact .inr (.inr ⟨_, _, _, _, _, rfl, sgT, by simp, rfl⟩)
      · rw [← he, ← snoc_encU]; rfl
      · rw [← he]; simp
      · simp [maxLen]; omega
      · simp; omega
      · rfl
      refine apnT fun r30 h30 => ?_; (repeat (rcases h30 with ⟨_, h30⟩))
      refine lo (lop_assign (E rfl)) rfl ?_
      refine leT ?_
      (refine ctlT ?_)
      (refine ctgT ?_)
      (apply aend; (exact resT))
      · exact ⟨r30, rfl, rfl⟩
      · (exact stleT)
    · have h1 : ¬ (-64 ≤ m ∧ m ≤ 63) := by
        rw [hb64]
        by_cases h6 : cS m < 64 <;> simp [h6] at h ⊢ <;> omega
      have hcl2 : us.length + (sB (m / 128)).length + 1 = vs.length + (sB n).length := by rw [sB_hi h1] at hcl; simp at hcl; omega
      rw [sB_hi h1] at he
      (refine ctlT ?_)
      refine rgT ?_
      refine lo (lop_move (E rfl)) rfl ?_
      refine lo (lop_move (E rfl)) rfl ?_
      refine lo (lop_or (E rfl) (E rfl)) rfl ?_
      refine z1 ?_; refine freshT fun r34 h34 => ?_; (repeat (rcases h34 with ⟨_, h34⟩))
      apply ap (es' := (us ++ [cS m + 128]).map encU) (len' := (us ++ [cS m + 128]).length); rfl; rfl; (exact sgT)
      · simp
      · exact .inr (.inr ⟨_, _, _, _, _, rfl, sgT, by simp, rfl⟩)
      · rw [← snoc_encU, orS_step]; rfl
      · simp
      · simp [maxLen]; omega
      · simp; omega
      · rfl
      refine apnT fun r35 h35 => ?_; (repeat (rcases h35 with ⟨_, h35⟩))
      refine lo (lop_assign (E rfl)) rfl ?_
      refine leT ?_
      (refine ctlT ?_)
      (refine ctgT ?_)
      refine ⟨(r35, us ++ [cS m + 128], m / 128), ⟨?_, ?_⟩, ?_, ?_⟩
      · simpa [cS] using he
      · show _ ≤ m / 128 ∧ m / 128 ≤ _; omega
      · show (m / 128).natAbs < m.natAbs; omega
      · (exact sgoT)
  · refine P (q, vs, n) _ ⟨rfl, hn⟩ ?_
    (exact sgoT)
end Go.Proofs.Ytjpdadobblffmaa
/-
  Package leb: how many bytes a number has; the same in the document's words.
-/
namespace Go.Proofs.Ytjpdadobblffmaa
open Go.RowKit Go.ChangeShapes Go.WideShapes Go.ChangeAt Go.Deep
attribute [local irreducible] SW RS RD AThen ABlock
def addN (n : Nat) (r : Nat × Int) : Nat × Int := if r.2 = 0 then (r.1 + n, 0) else r
theorem addN_zero (r : Nat × Int) : addN 0 r = r := by obtain ⟨x, y⟩ := r; unfold addN; split <;> simp_all
theorem addN_add (n k : Nat) (r : Nat × Int) : addN n (addN k r) = addN (n + k) r := by
  unfold addN
  by_cases h : r.2 = 0 <;> simp [h]
  omega
theorem lenB_next {l : List Nat} {m n : Nat} (h1 : n < m) (h2 : n < l.length) : lenB (l.drop n) (m - n) = if l[n]! < 128 then (1, 0) else addN 1 (lenB (l.drop (n + 1)) (m - (n + 1))) := by
  rw [List.drop_eq_getElem_cons h2, show m - n = (m - (n + 1)) + 1 by omega, lenB, getElem!_pos l n h2]
  rfl
theorem lenB_stop {l : List Nat} : lenB l 0 = (0, 1) := by cases l <;> rfl
theorem lenB_end {m : Nat} (h : 0 < m) : lenB [] m = (0, 2) := by
  cases m with
  | zero => omega
  | succ m => rfl
set_option maxRecDepth 100000 in
theorem leb_length (l : List Nat) (hl : l.length ≤ 1000000) (bits : Int) (m : Nat) (hm : bits = 32 ∧ m = 5 ∨ bits = 64 ∧ m = 10) : SCall Try.prog 27 [.ro 1 (l.map encU) .any, .int .i64 bits] []
    (fun x σ => x = .tup [.int .i64 ((lenB l m).1 : Nat), .int .i64 (lenB l m).2] ∧ σ = []) := by
  have hq : IntKind.i64.wrap ((bits + 7 - 1).tdiv 7) = m := by rcases hm with ⟨rfl, rfl⟩ | ⟨rfl, rfl⟩ <;> decide
  refine scall_of (n := 37) (ks := [0, 1, 4, 5, 6, 7, 13, 18, 22, 27]) Try.func27 rfl rfl (Nat.le_of_ble_eq_true rfl) ?_
  (refine ctlT ?_)
  refine rgT ?_
  refine lo (lop_assign (E rfl)) rfl ?_
  refine lo (lop_assign (E rfl)) rfl ?_
  refine leT ?_
  (refine ctlT ?_)
  refine scj (β := Nat) 0 rfl (fun b => ⟨[(0, .ro 1 (l.map encU) .any), (6, .int .i64 b), (7, .int .i64 m)], []⟩) (fun b => b ≤ m ∧ b ≤ l.length ∧ lenB l m = addN b (lenB (l.drop b) (m - b))) (fun b => m - b) ?_ (fun P => ?_)
  · rintro n ⟨hn1, hn2, he⟩
    try dsimp only at hn1 hn2 he ⊢
    (refine ctlT ?_)
    refine rgT ?_
    refine lo (lop_move (E rfl)) rfl ?_
    refine lo (lop_move (E rfl)) rfl ?_
    refine lo (lop_eql (E rfl) (E rfl)) rfl ?_
    refine lo (lop_assign (E rfl)) rfl ?_
    refine leT ?_
    (refine ctlT ?_)
    refine sw_cond rfl (fun h => ?_) (fun h => ?_)
    · obtain rfl : n = m := by simp at h; omega
      rw [Nat.sub_self, lenB_stop] at he
      (refine ctlT ?_)
      refine rgT ?_
      refine lo (lop_assign (E rfl)) rfl ?_
      refine lo (lop_assign (E rfl)) rfl ?_
      refine leT ?_
      (refine ctlT ?_)
      (refine ctgT ?_)
      (apply aend; (exact resT))
      · rw [he]; exact ⟨rfl, rfl⟩
      · (exact stleT)
    have h1 : n < m := by simp at h; omega
    (refine ctlT ?_)
    refine rgT ?_
    refine lo (lop_move (E rfl)) rfl ?_
    refine lo (lop_move (E rfl)) rfl ?_
    refine z14 ?_
    refine lo (lop_eql (E rfl) (E rfl)) rfl ?_
    refine lo (lop_assign (E rfl)) rfl ?_
    refine leT ?_
    (refine ctlT ?_)
    refine sw_cond rfl (fun h => ?_) (fun h => ?_)
    · obtain rfl : n = l.length := by simp at h; omega
      rw [List.drop_length, lenB_end (by omega)] at he
      (refine ctlT ?_)
      refine rgT ?_
      refine lo (lop_assign (E rfl)) rfl ?_
      refine lo (lop_assign (E rfl)) rfl ?_
      refine leT ?_
      (refine ctlT ?_)
      (refine ctgT ?_)
      (apply aend; (exact resT))
      · rw [he]; exact ⟨rfl, rfl⟩
      · (exact stleT)
    have h2 : n < l.length := by simp at h; omega
    rw [lenB_next h1 h2] at he
    (refine ctlT ?_)
    refine rgT ?_
    refine lo (lop_move (E rfl)) rfl ?_
    refine lo (lop_move (E rfl)) rfl ?_
    refine z15 ?_
    refine z16 ?_
    refine lo (lop_geq (E rfl) (E rfl)) rfl ?_
    refine lo (lop_assign (E rfl)) rfl ?_
    refine leT ?_
    (refine ctlT ?_)
    refine sw_cond rfl (fun h => ?_) (fun h => ?_)
    · have h3 : ¬ l[n]! < 128 := by rw [Int.toNat_natCast] at h; first | (have := of_decide_eq_true h; omega) | (have := of_decide_eq_false h; omega)
      rw [if_neg h3, addN_add] at he
      (refine ctlT ?_)
      refine rgT ?_
      refine lo (lop_move (E rfl)) rfl ?_
      refine z17 ?_
      refine lo (lop_assign (E rfl)) rfl ?_
      refine leT ?_
      (refine ctlT ?_)
      (refine ctgT ?_)
      refine ⟨n + 1, ⟨by omega, by omega, he⟩, by omega, ?_⟩
      (exact sgoT)
    · have h3 : l[n]! < 128 := by rw [Int.toNat_natCast] at h; first | (have := of_decide_eq_true h; omega) | (have := of_decide_eq_false h; omega)
      rw [if_pos h3] at he
      (refine ctlT ?_)
      refine rgT ?_
      refine lo (lop_move (E rfl)) rfl ?_
      refine z17 ?_
      refine lo (lop_assign (E rfl)) rfl ?_
      refine lo (lop_assign (E rfl)) rfl ?_
      refine leT ?_
      (refine ctlT ?_)
      (refine ctgT ?_)
      (apply aend; (exact resT))
      · rw [he, show addN n (1, 0) = (n + 1, 0) by simp [addN, Nat.add_comm]]
        exact ⟨rfl, rfl⟩
      · (exact stleT)
  · (refine ctlT ?_)
    refine rgT ?_
    refine lo (lop_move (E rfl)) rfl ?_
    refine lo (lop_lss (E rfl) (E rfl)) rfl ?_
    refine lo (lop_move (E rfl)) rfl ?_
    refine z4 ?_
    refine z18 ?_
    refine z13 ?_
    refine leT ?_
    (refine ctlT ?_)
    refine sw_cond rfl (fun h => ?_) (fun h => ?_)
    · exfalso; simp at h; omega
    (refine ctlT ?_)
    refine rgT ?_
    refine lo (lop_move (E rfl)) rfl ?_
    refine z17 ?_
    refine z19 ?_
    refine z20 ?_
    refine lo (lop_assign (E rfl)) rfl ?_
    refine lo (lop_assign (E rfl)) rfl ?_
    refine leT ?_
    refine an ?_
    rw [hq]
    refine P 0 _ ⟨by omega, by omega, by simp [addN_zero]⟩ ?_
    (exact sgoT)
set_option maxRecDepth 100000 in
theorem leb_same (a c : List Nat) (ha : ∀ x ∈ a, x < 256) (hc : ∀ x ∈ c, x < 256) : SCall Try.prog 28 [.ro 1 (a.map encU) .any, .ro 1 (c.map encU) .any] []
    (fun x σ => x = .bool (decide (c = a)) ∧ σ = []) := by
  refine scall_of (n := 10) (ks := [0, 1, 4]) Try.func28 rfl rfl (Nat.le_of_ble_eq_true rfl) ?_
  (refine ctlT ?_)
  refine rgT ?_
  refine lo (lop_assign (E rfl)) rfl ?_
  refine leT ?_
  (refine ctlT ?_)
  refine rgT ?_
  refine lo (lop_move (E rfl)) rfl ?_
  refine lo (lop_bytes_ro (e := 5) (bs := a) (E rfl)) rfl ?_
  refine lo (lop_move (E rfl)) rfl ?_
  refine lo (lop_bytes_ro (e := 5) (bs := c) (E rfl)) rfl ?_
  refine lo (lop_seql (E rfl) (E rfl)) rfl ?_
  refine lo (lop_assign (E rfl)) rfl ?_
  refine leT ?_
  (refine ctlT ?_)
  (apply aend; (exact resT))
  · refine ⟨?_, rfl⟩
    rw [strU_inj ha hc]
    show AV.bool _ = _
    congr 1
    rw [decide_eq_decide]
    exact eq_comm
  · (exact stleT)
end Go.Proofs.Ytjpdadobblffmaa
/-
  Numbers as bytes in the document's words.
-/
namespace Go.Proofs.Ytjpdadobblffmaa
open Go.RowKit Go.ChangeShapes Go.WideShapes Go.ChangeAt Go.Deep
attribute [local irreducible] SW RS RD AThen ABlock
theorem u64_nat {n : Nat} (hn : n < 18446744073709551616) : IntKind.u64.wrap (n : Int) = n := by rw [IntKind.wrap_u64]; omega
end Go.Proofs.Ytjpdadobblffmaa
/-
  Package leb: U; the document's GetU.
-/
namespace Go.Proofs.Ytjpdadobblffmaa
open Go.RowKit Go.ChangeShapes Go.WideShapes Go.ChangeAt Go.Deep
attribute [local irreducible] SW RS RD AThen ABlock
theorem nil_putU (n : Nat) (hn : n < 18446744073709551616) : SCall Try.prog 14 [.ro 0 [] .nil, .int .u64 n] []
    (fun x σ => ∃ r, x = .own r 0 (uB n).length ∧ σ = [(r, .arr 5 1 ((uB n).map encU))]) :=
  scall_nil (e := 5) (sz := 1) (by decide) fun q _ => leb_putU q [] (by simp) n hn
theorem nil_putS (n : Int) (hn : -9223372036854775808 ≤ n ∧ n ≤ 9223372036854775807) : SCall Try.prog 15 [.ro 0 [] .nil, .int .i64 n] []
    (fun x σ => ∃ r, x = .own r 0 (sB n).length ∧ σ = [(r, .arr 5 1 ((sB n).map encU))]) :=
  scall_nil (e := 5) (sz := 1) (by decide) fun q _ => leb_putS q [] (by simp) n hn
theorem getB_lt {l : List Nat} (h : ∀ x ∈ l, x < 256) (i : Nat) : l[i]! < 256 := by
  by_cases hi : i < l.length
  · rw [getElem!_pos l i hi]; exact h _ (List.getElem_mem hi)
  · simp [hi]
theorem take_step {l : List Nat} {k c : Nat} (h : c < k) (hk : k ≤ l.length) : (l.take k).drop c = l[c]! :: (l.take k).drop (c + 1) := by
  have h1 : c < (l.take k).length := by simp; omega
  rw [List.drop_eq_getElem_cons h1, List.getElem_take, getElem!_pos l c (by omega)]
theorem u64_ofNat {n : Nat} (hn : n < 18446744073709551616) : (BitVec.ofInt IntKind.u64.bits (n : Int)).toNat = n := by
  rw [BitVec.toNat_ofInt]; simp [IntKind.bits]; omega
theorem shlor {x y : Nat} (hx : x < 34359738368) (hy : y < 256) : IntKind.u64.wrap ↑(BitVec.ofInt IntKind.u64.bits (IntKind.u64.wrap ((x : Int) * 2 ^ min (Int.toNat 7) IntKind.u64.bits)) ||| BitVec.ofInt IntKind.u64.bits (((y % 128 : Nat) : Int))).toNat = ((y % 128 + 128 * x : Nat) : Int) := by
  have h0 : (2 : Int) ^ min (Int.toNat 7) IntKind.u64.bits = 128 := by decide
  have h1 : IntKind.u64.wrap ((x : Int) * 128) = ((x * 128 : Nat) : Int) := by rw [IntKind.wrap_u64]; omega
  rw [h0, h1, BitVec.toNat_or, u64_ofNat (by omega), u64_ofNat (by omega), show x * 128 = 2 ^ 7 * x by omega, ← Nat.two_pow_add_eq_or_of_lt (by omega), IntKind.wrap_u64]
  omega
theorem shr32 {x : Nat} : (x : Int).fdiv (2 ^ min (Int.toNat 32) IntKind.u64.bits) = ((x / 4294967296 : Nat) : Int) := by
  have : (2 : Int) ^ min (Int.toNat 32) IntKind.u64.bits = 4294967296 := by decide
  rw [this, Int.fdiv_eq_ediv_of_nonneg _ (by omega)]
  omega
theorem valU_lt5 {l : List Nat} {k c : Nat} (hk : k ≤ 5) : valU ((l.take k).drop c) < 34359738368 := by
  have h1 := valU_lt ((l.take k).drop c)
  have h2 : ((l.take k).drop c).length ≤ 5 := by simp; omega
  exact Nat.lt_of_lt_of_le h1 (Nat.le_trans (Nat.pow_le_pow_right (by decide) h2) (by decide))
set_option maxRecDepth 100000 in
theorem leb_U (l : List Nat) (hl : l.length ≤ 1000000) (hlt : ∀ x ∈ l, x < 256) : SCall Try.prog 23 [.ro 1 (l.map encU) .any, .int .i64 32] []
    (fun x σ => x = .tup [.int .u64 ((getU l).1 : Nat), .int .i64 ((getU l).2.1 : Nat), .int .i64 (getU l).2.2] ∧ σ = []) := by
  refine scall_of (n := 53) (ks := [0, 1, 4, 5, 6, 7, 8, 9, 10, 18, 22, 50]) Try.func23 rfl rfl (Nat.le_of_ble_eq_true rfl) ?_
  (refine ctlT ?_)
  refine rgT ?_
  refine lo (lop_assign (E rfl)) rfl ?_
  refine lo (lop_assign (E rfl)) rfl ?_
  refine lo (lop_assign (E rfl)) rfl ?_
  refine leT ?_
  (refine ctlT ?_)
  refine scj (β := Nat) 0 rfl (fun b => ⟨[(0, .ro 1 (l.map encU) .any), (1, .int .i64 32), (7, .int .i64 ((lenB l 5).1 : Nat)), (9, .int .u64 (valU ((l.take (lenB l 5).1).drop b) : Nat)), (10, .int .i64 b)], []⟩) (fun b => b ≤ (lenB l 5).1 ∧ (lenB l 5).2 = 0) (fun b => b) ?_ (fun P => ?_)
  · rintro n ⟨hn1, hk0⟩
    try dsimp only at hn1 hk0 ⊢
    obtain ⟨hk1, hk2, hk3⟩ := lenB_ok l 5 hk0
    generalize hk : (lenB l 5).1 = k at *
    (refine ctlT ?_)
    refine rgT ?_
    refine lo (lop_move (E rfl)) rfl ?_
    refine lo (lop_gtr (E rfl) (E rfl)) rfl ?_
    refine leT ?_
    (refine ctlT ?_)
    refine sw_cond rfl (fun h => ?_) (fun h => ?_)
    · obtain ⟨c, rfl⟩ : ∃ c, n = c + 1 := ⟨n - 1, by simp at h; omega⟩
      (refine ctlT ?_)
      refine rgT ?_
      refine lo (lop_move (E rfl)) rfl ?_
      refine z19 ?_
      refine lo (lop_assign (E rfl)) rfl ?_
      refine leT ?_
      (refine ctlT ?_)
      rw [show ((c + 1 : Nat) : Int) - 1 = (c : Nat) by omega]
      refine rgT ?_
      refine lo (lop_move (E rfl)) rfl ?_
      refine z23 ?_
      refine lo (lop_move (E rfl)) rfl ?_
      refine lo (lop_move (E rfl)) rfl ?_
      refine z15 ?_
      refine z16 ?_
      refine z3 ?_
      refine z24 ?_
      refine lo (lop_or (E rfl) (E rfl)) rfl ?_
      refine lo (lop_assign (E rfl)) rfl ?_
      refine leT ?_
      (refine ctlT ?_)
      rw [Int.toNat_natCast, u8_andn128 (getB_lt hlt c), u64_nat (n := l[c]! % 128) (by omega), shlor (valU_lt5 hk2) (getB_lt hlt c)]
      (refine ctgT ?_)
      refine ⟨c, ⟨by omega, hk0⟩, by omega, ?_⟩
      rw [take_step (c := c) (by omega) hk3, valU]
      (exact sgoT)
    · obtain rfl : n = 0 := by simp at h; omega
      rw [List.drop_zero]
      have hv : valU (l.take k) < 34359738368 := valU_lt5 (c := 0) hk2
      generalize hx : valU (l.take k) = x at hv ⊢
      (refine ctlT ?_)
      refine rgD [(0, true), (1, true), (2, true), (3, true), (4, false), (5, false), (6, true), (7, true), (8, true), (9, true), (10, true), (11, true), (12, true), (13, true), (14, true), (15, true), (16, true)] ?_
      refine dlo rfl (lop_move (E rfl)) rfl ?_
      refine dlo rfl (lop_move (E rfl)) rfl ?_
      refine z25 ?_
      refine dlo rfl (lop_move (E rfl)) rfl ?_
      refine dcw [] rfl Try.call14 (nil_putU x (by omega)) rfl ?_ ?_ ?_ ?_
      · (exact argsleT)
      · (exact stleT)
      · (exact hbtT)
      rintro _ σ' ⟨r, rfl, rfl⟩ hr
      replace hr := cnewT hr; (repeat (rcases hr with ⟨_, hr⟩))
      (apply rd_sto; (exact nflT))
      refine dpu [r] rfl Try.call28 (leb_same (l.take k) (uB x) (fun y hy => hlt y (List.mem_of_mem_take hy)) (uB_lt x)) rfl ?_ nofT ?_
      · (exact pargsT)
      refine dlo rfl (lop_not (E rfl)) rfl ?_
      refine dlo rfl (lop_move (E rfl)) rfl ?_
      refine z26 ?_
      refine z27 ?_
      refine z28 ?_
      refine z29 ?_
      refine z29 ?_
      refine z30 ?_
      refine z31 ?_
      refine z32 ?_
      refine z33 ?_
      refine deT ?_
      (refine ctlT ?_)
      have hc : (if (!decide (uB x = l.take k)) = true then true else (x : Int).fdiv (2 ^ min (Int.toNat 32) IntKind.u64.bits) != 0) = !decide (uB x = l.take k ∧ x < 4294967296) := by
        rw [shr32]
        by_cases h1 : uB x = l.take k
        · by_cases h2 : x < 4294967296
          · simp [h1, h2]; omega
          · simp [h1, h2]; omega
        · simp [h1]
      rw [hc]
      refine sw_cond rfl (fun h => ?_) (fun h => ?_)
      · have h1 : ¬ (uB x = l.take k ∧ x < 4294967296) := by
          rintro ⟨h1, h2⟩
          simp [h1] at h
          omega
        (refine ctlT ?_)
        refine rgT ?_
        refine lo (lop_assign (E rfl)) rfl ?_
        refine lo (lop_assign (E rfl)) rfl ?_
        refine lo (lop_assign (E rfl)) rfl ?_
        refine leT ?_
        (refine ctlT ?_)
        (refine ctgT ?_)
        (apply aend; (exact resT))
        · unfold getU
          rw [if_neg (by rw [hk0]; simp), hk, hx, if_neg h1]
          exact ⟨rfl, rfl⟩
        · (exact stleT)
      · have h1 : uB x = l.take k ∧ x < 4294967296 := by simpa using h
        (refine ctlT ?_)
        refine rgT ?_
        refine lo (lop_move (E rfl)) rfl ?_
        refine lo (lop_move (E rfl)) rfl ?_
        refine lo (lop_assign (E rfl)) rfl ?_
        refine lo (lop_assign (E rfl)) rfl ?_
        refine lo (lop_assign (E rfl)) rfl ?_
        refine leT ?_
        (refine ctlT ?_)
        (refine ctgT ?_)
        (apply aend; (exact resT))
        · unfold getU
          rw [if_neg (by rw [hk0]; simp), hk, hx, if_pos h1]
          exact ⟨rfl, rfl⟩
        · (exact stleT)
  · (refine ctlT ?_)
    refine rgT ?_
    refine lo (lop_move (E rfl)) rfl ?_
    refine lo (lop_move (E rfl)) rfl ?_
    (first | refine pu [] Try.call27 (leb_length l hl 32 5 (.inl ⟨rfl, rfl⟩)) rfl argsT nofT ?_ | refine pug [] rfl rfl Try.call27 (fun _ => (leb_length l hl 32 5 (.inl ⟨rfl, rfl⟩))) rfl argsT nofT ?_)
    refine lo (lop_move (E rfl)) rfl ?_
    refine lo (lop_extract (E rfl) rfl) rfl ?_
    refine lo (lop_extract (E rfl) rfl) rfl ?_
    refine lo (lop_assign (E rfl)) rfl ?_
    refine lo (lop_assign (E rfl)) rfl ?_
    refine leT ?_
    (refine ctlT ?_)
    refine rgT ?_
    refine lo (lop_move (E rfl)) rfl ?_
    refine lo (lop_neq (E rfl) (E rfl)) rfl ?_
    refine leT ?_
    (refine ctlT ?_)
    refine sw_cond rfl (fun h => ?_) (fun h => ?_)
    · have h1 : (lenB l 5).2 ≠ 0 := by simpa using h
      (refine ctlT ?_)
      refine rgT ?_
      refine lo (lop_move (E rfl)) rfl ?_
      refine lo (lop_assign (E rfl)) rfl ?_
      refine lo (lop_assign (E rfl)) rfl ?_
      refine lo (lop_assign (E rfl)) rfl ?_
      refine leT ?_
      (refine ctlT ?_)
      (refine ctgT ?_)
      (apply aend; (exact resT))
      · unfold getU
        rw [if_pos h1]
        exact ⟨rfl, rfl⟩
      · (exact stleT)
    · have h1 : (lenB l 5).2 = 0 := by simpa using h
      (refine ctlT ?_)
      refine rgT ?_
      refine lo (lop_move (E rfl)) rfl ?_
      refine lo (lop_assign (E rfl)) rfl ?_
      refine lo (lop_assign (E rfl)) rfl ?_
      refine leT ?_
      refine an ?_
      refine P (lenB l 5).1 _ ⟨Nat.le_refl _, h1⟩ ?_
      rw [show (l.take (lenB l 5).1).drop (lenB l 5).1 = [] by rw [List.drop_eq_nil_iff]; simp; omega]
      (exact sgoT)
end Go.Proofs.Ytjpdadobblffmaa
/-
  Package leb: S; the document's GetS.
-/
namespace Go.Proofs.Ytjpdadobblffmaa
open Go.RowKit Go.ChangeShapes Go.WideShapes Go.ChangeAt Go.Deep
attribute [local irreducible] SW RS RD AThen ABlock
theorem valS_bd : ∀ (l : List Nat), -9223372036854775808 ≤ valS l ∧ valS l ≤ 9223372036854775807
  | [] => by simp [valS]
  | [b] => by rw [valS]; split <;> omega
  | b :: c :: t => by rw [valS, IntKind.wrap_i64]; omega
/-- what has been read of the bytes from c on, before the first one: the sign -/
def sv (l : List Nat) (k c : Nat) : Int := if c < k then valS ((l.take k).drop c) else if 64 ≤ l[k - 1]! % 128 then -1 else 0
theorem sv_zero {l : List Nat} {k : Nat} (hk : 1 ≤ k) : sv l k 0 = valS (l.take k) := by
  unfold sv; rw [if_pos (by omega), List.drop_zero]
theorem sv_step {l : List Nat} {k c : Nat} (h : c < k) (hk : k ≤ l.length) : sv l k c = IntKind.i64.wrap (sv l k (c + 1) * 128 + ((l[c]! % 128 : Nat) : Int)) := by
  unfold sv
  rw [if_pos h, take_step h hk]
  by_cases h1 : c + 1 < k
  · rw [if_pos h1, valS_cons _ (by simp; omega)]
  · obtain rfl : k = c + 1 := by omega
    rw [if_neg h1, show (l.take (c + 1)).drop (c + 1) = [] by rw [List.drop_eq_nil_iff]; simp; omega, valS, Nat.add_sub_cancel]
    generalize l[c]! = y
    split <;> rw [IntKind.wrap_i64] <;> omega
theorem i64_ofInt (y : Int) : (BitVec.ofInt IntKind.i64.bits y).toNat = (y % 18446744073709551616).toNat := by
  rw [BitVec.toNat_ofInt]; simp [IntKind.bits]
theorem shlorS {x : Int} {y : Nat} : IntKind.i64.wrap ↑(BitVec.ofInt IntKind.i64.bits (IntKind.i64.wrap (x * 2 ^ min (Int.toNat 7) IntKind.i64.bits)) ||| BitVec.ofInt IntKind.i64.bits (((y % 128 : Nat) : Int))).toNat = IntKind.i64.wrap (x * 128 + ((y % 128 : Nat) : Int)) := by
  have h0 : (2 : Int) ^ min (Int.toNat 7) IntKind.i64.bits = 128 := by decide
  obtain ⟨z, hz⟩ : ∃ z : Nat, (IntKind.i64.wrap (x * 128) % 18446744073709551616).toNat = 2 ^ 7 * z := by
    refine ⟨(IntKind.i64.wrap (x * 128) % 18446744073709551616).toNat / 128, ?_⟩
    rw [IntKind.wrap_i64]; omega
  have h2 : (((y % 128 : Nat) : Int) % 18446744073709551616).toNat = y % 128 := by omega
  rw [h0, BitVec.toNat_or, i64_ofInt, i64_ofInt, hz, h2, ← Nat.two_pow_add_eq_or_of_lt (by omega)]
  rw [IntKind.wrap_i64] at hz
  rw [IntKind.wrap_i64, IntKind.wrap_i64]
  omega
set_option maxRecDepth 100000 in
theorem u8_and64' {x : Nat} (h : x < 256) : IntKind.u8.wrap ↑(BitVec.ofInt IntKind.u8.bits (x : Int) &&& BitVec.ofInt IntKind.u8.bits 64).toNat = if x % 128 < 64 then 0 else 64 := by
  have h1 : ∀ x < 256, x &&& 64 = if x % 128 < 64 then 0 else 64 := by decide
  rw [BitVec.toNat_and, u8_nat (by omega), show (BitVec.ofInt IntKind.u8.bits 64).toNat = 64 by decide, h1 x h, IntKind.wrap_u8]
  split <;> rfl
theorem i64_small {n : Nat} (h : n < 256) : IntKind.i64.wrap (n : Int) = n := by rw [IntKind.wrap_i64]; omega
theorem mostS_eq {bits : Nat} (hb : bits = 32 ∨ bits = 64) : (bits : Int) = 32 ∧ mostS bits = 5 ∨ (bits : Int) = 64 ∧ mostS bits = 10 := by
  rcases hb with rfl | rfl
  · exact .inl ⟨rfl, rfl⟩
  · exact .inr ⟨rfl, rfl⟩
theorem topS {bits : Nat} (hb : bits = 32 ∨ bits = 64) {x : Int} (hv : -9223372036854775808 ≤ x ∧ x ≤ 9223372036854775807) : (x.fdiv (2 ^ min ((bits : Int) - 1).toNat IntKind.i64.bits) = 0 ∨ x.fdiv (2 ^ min ((bits : Int) - 1).toNat IntKind.i64.bits) = -1) ↔ (bits = 32 → -2147483648 ≤ x ∧ x ≤ 2147483647) := by
  rcases hb with rfl | rfl
  · rw [show (2 : Int) ^ min (((32 : Nat) : Int) - 1).toNat IntKind.i64.bits = 2147483648 by decide, Int.fdiv_eq_ediv_of_nonneg _ (by omega)]
    omega
  · rw [show (2 : Int) ^ min (((64 : Nat) : Int) - 1).toNat IntKind.i64.bits = 9223372036854775808 by decide, Int.fdiv_eq_ediv_of_nonneg _ (by omega)]
    omega
theorem getS_no {bits : Nat} {l : List Nat} {k : Nat} (hk0 : (lenB l (mostS bits)).2 = 0) (hk : (lenB l (mostS bits)).1 = k) (h : ¬ (sB (valS (l.take k)) = l.take k ∧ (bits = 32 → -2147483648 ≤ valS (l.take k) ∧ valS (l.take k) ≤ 2147483647))) : getS bits l = (0, 0, 1) := by
  unfold getS
  rw [if_neg (by rw [hk0]; simp), hk, if_neg h]
theorem getS_yes {bits : Nat} {l : List Nat} {k : Nat} (hk0 : (lenB l (mostS bits)).2 = 0) (hk : (lenB l (mostS bits)).1 = k) (h : sB (valS (l.take k)) = l.take k ∧ (bits = 32 → -2147483648 ≤ valS (l.take k) ∧ valS (l.take k) ≤ 2147483647)) : getS bits l = (valS (l.take k), k, 0) := by
  unfold getS
  rw [if_neg (by rw [hk0]; simp), hk, if_pos h]
set_option maxRecDepth 100000 in
theorem leb_S (l : List Nat) (hl : l.length ≤ 1000000) (hlt : ∀ x ∈ l, x < 256) (bits : Nat) (hb : bits = 32 ∨ bits = 64) : SCall Try.prog 24 [.ro 1 (l.map encU) .any, .int .i64 bits] []
    (fun x σ => x = .tup [.int .i64 (getS bits l).1, .int .i64 ((getS bits l).2.1 : Nat), .int .i64 (getS bits l).2.2] ∧ σ = []) := by
  refine scall_of (n := 63) (ks := [0, 1, 4, 5, 6, 7, 8, 9, 10, 11, 19, 28, 30, 60]) Try.func24 rfl rfl (Nat.le_of_ble_eq_true rfl) ?_
  (refine ctlT ?_)
  refine rgT ?_
  refine lo (lop_assign (E rfl)) rfl ?_
  refine lo (lop_assign (E rfl)) rfl ?_
  refine lo (lop_assign (E rfl)) rfl ?_
  refine leT ?_
  (refine ctlT ?_)
  obtain ⟨m, hm⟩ : ∃ m, m = mostS bits := ⟨_, rfl⟩
  have hlen : lenB l (mostS bits) = lenB l m := by rw [hm]
  refine scj (β := Nat) 0 rfl (fun b => ⟨[(0, .ro 1 (l.map encU) .any), (1, .int .i64 bits), (7, .int .i64 ((lenB l m).1 : Nat)), (9, .int .i64 (sv l (lenB l m).1 b)), (10, .int .i64 b)], []⟩) (fun b => b ≤ (lenB l m).1 ∧ (lenB l m).2 = 0) (fun b => b) ?_ (fun P => ?_)
  · rintro n ⟨hn1, hk0⟩
    try dsimp only at hn1 hk0 ⊢
    obtain ⟨hk1, hk2, hk3⟩ := lenB_ok l m hk0
    generalize hk : (lenB l m).1 = k at *
    (refine ctlT ?_)
    refine rgT ?_
    refine lo (lop_move (E rfl)) rfl ?_
    refine lo (lop_gtr (E rfl) (E rfl)) rfl ?_
    refine leT ?_
    (refine ctlT ?_)
    refine sw_cond rfl (fun h => ?_) (fun h => ?_)
    · obtain ⟨c, rfl⟩ : ∃ c, n = c + 1 := ⟨n - 1, by simp at h; omega⟩
      (refine ctlT ?_)
      refine rgT ?_
      refine lo (lop_move (E rfl)) rfl ?_
      refine z19 ?_
      refine lo (lop_assign (E rfl)) rfl ?_
      refine leT ?_
      (refine ctlT ?_)
      rw [show ((c + 1 : Nat) : Int) - 1 = (c : Nat) by omega]
      refine rgT ?_
      refine lo (lop_move (E rfl)) rfl ?_
      refine z23 ?_
      refine lo (lop_move (E rfl)) rfl ?_
      refine lo (lop_move (E rfl)) rfl ?_
      refine z15 ?_
      refine z16 ?_
      refine z3 ?_
      refine z44 ?_
      refine lo (lop_or (E rfl) (E rfl)) rfl ?_
      refine lo (lop_assign (E rfl)) rfl ?_
      refine leT ?_
      (refine ctlT ?_)
      rw [Int.toNat_natCast, u8_andn128 (getB_lt hlt c), i64_small (n := l[c]! % 128) (by omega), shlorS, ← sv_step (by omega) hk3]
      (refine ctgT ?_)
      refine ⟨c, ⟨by omega, hk0⟩, by omega, ?_⟩
      (exact sgoT)
    · obtain rfl : n = 0 := by simp at h; omega
      rw [sv_zero hk1]
      have hv := valS_bd (l.take k)
      generalize hx : valS (l.take k) = x at hv ⊢
      (refine ctlT ?_)
      refine rgT ?_
      refine lo (lop_move (E rfl)) rfl ?_
      refine lo (lop_move (E rfl)) rfl ?_
      refine z19 ?_
      refine z2 ?_
      refine lo (lop_assign (E rfl)) rfl ?_
      refine leT ?_
      (refine ctlT ?_)
      refine rgD [(0, true), (1, true), (2, true), (3, true), (4, false), (5, false), (6, true), (7, true), (8, true), (9, true), (10, true), (11, true), (12, true), (13, true), (14, true)] ?_
      refine dlo rfl (lop_move (E rfl)) rfl ?_
      refine dlo rfl (lop_move (E rfl)) rfl ?_
      refine z25 ?_
      refine dlo rfl (lop_move (E rfl)) rfl ?_
      refine dcw [] rfl Try.call15 (nil_putS x hv) rfl ?_ ?_ ?_ ?_
      · (exact argsleT)
      · (exact stleT)
      · (exact hbtT)
      rintro _ σ' ⟨r, rfl, rfl⟩ hr
      replace hr := cnewT hr; (repeat (rcases hr with ⟨_, hr⟩))
      (apply rd_sto; (exact nflT))
      refine dpu [r] rfl Try.call28 (leb_same (l.take k) (sB x) (fun y hy => hlt y (List.mem_of_mem_take hy)) (sB_lt _ x (Nat.le_refl _))) rfl ?_ nofT ?_
      · (exact pargsT)
      refine dlo rfl (lop_not (E rfl)) rfl ?_
      refine dlo rfl (lop_move (E rfl)) rfl ?_
      refine z26 ?_
      refine z45 ?_
      refine z28 ?_
      refine z29 ?_
      refine z31 ?_
      refine z32 ?_
      refine z33 ?_
      refine deT ?_
      (refine ctlT ?_)
      have ht := topS hb hv
      generalize x.fdiv (2 ^ min ((bits : Int) - 1).toNat IntKind.i64.bits) = y at ht ⊢
      refine sw_cond rfl (fun h => ?_) (fun h => ?_)
      · have h1 : ¬ (sB x = l.take k ∧ (bits = 32 → -2147483648 ≤ x ∧ x ≤ 2147483647)) := by
          rintro ⟨h1, h2⟩
          rcases ht.2 h2 with rfl | rfl <;> simp [h1] at h
        rw [← hx] at h1
        (refine ctlT ?_)
        refine rgT ?_
        refine lo (lop_assign (E rfl)) rfl ?_
        refine lo (lop_assign (E rfl)) rfl ?_
        refine lo (lop_assign (E rfl)) rfl ?_
        refine leT ?_
        (refine ctlT ?_)
        (refine ctgT ?_)
        (apply aend; (exact resT))
        · rw [getS_no (by rw [hlen]; exact hk0) (by rw [hlen]; exact hk) h1]
          exact ⟨rfl, rfl⟩
        · (exact stleT)
      · have h1 : sB x = l.take k ∧ (bits = 32 → -2147483648 ≤ x ∧ x ≤ 2147483647) := by
          by_cases h2 : sB x = l.take k
          · refine ⟨h2, ht.1 ?_⟩
            by_cases h3 : y = 0
            · exact .inl h3
            · exact .inr (by simpa [h2, h3] using h)
          · simp [h2] at h
        rw [← hx] at h1
        (refine ctlT ?_)
        refine rgT ?_
        refine lo (lop_move (E rfl)) rfl ?_
        refine lo (lop_move (E rfl)) rfl ?_
        refine lo (lop_assign (E rfl)) rfl ?_
        refine lo (lop_assign (E rfl)) rfl ?_
        refine lo (lop_assign (E rfl)) rfl ?_
        refine leT ?_
        (refine ctlT ?_)
        (refine ctgT ?_)
        (apply aend; (exact resT))
        · rw [getS_yes (by rw [hlen]; exact hk0) (by rw [hlen]; exact hk) h1, hx]
          exact ⟨rfl, rfl⟩
        · (exact stleT)
  · (refine ctlT ?_)
    refine rgT ?_
    refine lo (lop_move (E rfl)) rfl ?_
    refine lo (lop_move (E rfl)) rfl ?_
    (first | refine pu [] Try.call27 (leb_length l hl bits m (by rw [hm]; exact mostS_eq hb)) rfl argsT nofT ?_ | refine pug [] rfl rfl Try.call27 (fun _ => (leb_length l hl bits m (by rw [hm]; exact mostS_eq hb))) rfl argsT nofT ?_)
    refine lo (lop_move (E rfl)) rfl ?_
    refine lo (lop_extract (E rfl) rfl) rfl ?_
    refine lo (lop_extract (E rfl) rfl) rfl ?_
    refine lo (lop_assign (E rfl)) rfl ?_
    refine lo (lop_assign (E rfl)) rfl ?_
    refine leT ?_
    (refine ctlT ?_)
    refine rgT ?_
    refine lo (lop_move (E rfl)) rfl ?_
    refine lo (lop_neq (E rfl) (E rfl)) rfl ?_
    refine leT ?_
    (refine ctlT ?_)
    refine sw_cond rfl (fun h => ?_) (fun h => ?_)
    · have h1 : (lenB l m).2 ≠ 0 := by simpa using h
      (refine ctlT ?_)
      refine rgT ?_
      refine lo (lop_move (E rfl)) rfl ?_
      refine lo (lop_assign (E rfl)) rfl ?_
      refine lo (lop_assign (E rfl)) rfl ?_
      refine lo (lop_assign (E rfl)) rfl ?_
      refine leT ?_
      (refine ctlT ?_)
      (refine ctgT ?_)
      (apply aend; (exact resT))
      · unfold getS
        rw [hlen, if_pos h1]
        exact ⟨rfl, rfl⟩
      · (exact stleT)
    · have hk0 : (lenB l m).2 = 0 := by simpa using h
      obtain ⟨hk1, hk2, hk3⟩ := lenB_ok l m hk0
      have hsv : sv l (lenB l m).1 (lenB l m).1 = if 64 ≤ l[(lenB l m).1 - 1]! % 128 then -1 else 0 := by unfold sv; rw [if_neg (by omega)]
      obtain ⟨j, hj⟩ : ∃ j, (lenB l m).1 = j + 1 := ⟨(lenB l m).1 - 1, by omega⟩
      rw [hj] at hsv P hk1 hk2 hk3 ⊢
      rw [Nat.add_sub_cancel] at hsv
      (refine ctlT ?_)
      refine rgT ?_
      refine lo (lop_move (E rfl)) rfl ?_
      refine lo (lop_assign (E rfl)) rfl ?_
      refine lo (lop_assign (E rfl)) rfl ?_
      refine leT ?_
      (refine ctlT ?_)
      refine rgT ?_
      refine lo (lop_move (E rfl)) rfl ?_
      refine lo (lop_move (E rfl)) rfl ?_
      refine z19 ?_
      rw [show ((j + 1 : Nat) : Int) - 1 = (j : Nat) by omega]
      refine z15 ?_
      refine z16 ?_
      refine lo (lop_and (E rfl) (E rfl)) rfl ?_
      refine lo (lop_neq (E rfl) (E rfl)) rfl ?_
      refine leT ?_
      (refine ctlT ?_)
      rw [Int.toNat_natCast, u8_and64' (getB_lt hlt j)]
      refine sw_cond rfl (fun h => ?_) (fun h => ?_)
      · have h2 : 64 ≤ l[j]! % 128 := by
          by_cases h3 : l[j]! % 128 < 64
          · rw [if_pos h3] at h; simp at h
          · omega
        rw [if_pos h2] at hsv
        refine rgT ?_
        refine lo (lop_assign (E rfl)) rfl ?_
        refine leT ?_
        refine an ?_
        refine P (j + 1) _ ⟨Nat.le_refl _, hk0⟩ ?_
        rw [hsv]
        (exact sgoT)
      · have h2 : ¬ 64 ≤ l[j]! % 128 := by
          by_cases h3 : l[j]! % 128 < 64
          · omega
          · rw [if_neg h3] at h; simp at h
        rw [if_neg h2] at hsv
        refine ck ?_
        refine an ?_
        refine P (j + 1) _ ⟨Nat.le_refl _, hk0⟩ ?_
        rw [hsv]
        (exact sgoT)
end Go.Proofs.Ytjpdadobblffmaa
/-
  Which instructions there are: kinds, forms.
-/
namespace Go.Proofs.Ytjpdadobblffmaa
open Go.RowKit Go.ChangeShapes Go.WideShapes Go.ChangeAt Go.Deep
attribute [local irreducible] SW RS RD AThen ABlock
def encI (n : Int) : List AV := [.int .i64 n]
def bt2 (n a b : Int) : Bool := if decide (a ≤ n) = true then decide (n ≤ b) else false
set_option maxRecDepth 100000 in
theorem ints_between (n a b : Int) : SCall Try.prog 26 [.int .i64 n, .int .i64 a, .int .i64 b] [] (fun x σ => x = .bool (bt2 n a b) ∧ σ = []) := by
  refine scall_of (n := 15) (ks := [0, 1, 2, 6]) Try.func26 rfl rfl (Nat.le_of_ble_eq_true rfl) ?_
  (refine ctlT ?_)
  refine rgT ?_
  refine lo (lop_assign (E rfl)) rfl ?_
  refine leT ?_
  (refine ctlT ?_)
  refine rgT ?_
  refine lo (lop_move (E rfl)) rfl ?_
  refine lo (lop_move (E rfl)) rfl ?_
  refine lo (lop_geq (E rfl) (E rfl)) rfl ?_
  refine lo (lop_move (E rfl)) rfl ?_
  refine z4 ?_
  refine z4 ?_
  refine z54 ?_
  refine z7 ?_
  refine lo (lop_assign (E rfl)) rfl ?_
  refine leT ?_
  (refine ctlT ?_)
  (apply aend; (exact resT))
  · exact ⟨rfl, rfl⟩
  · (exact stleT)
/-- which it is as one of 32 bits, and its kind; 0: none -/
def ofN (op : Int) : Int × Int :=
  if (bt2 op 69 79 || bt2 op 103 120) = true then (1, op) else if bt2 op 80 90 = true then (2, IntKind.i64.wrap (IntKind.i64.wrap (op - 80) + 69)) else if bt2 op 121 138 = true then (2, IntKind.i64.wrap (IntKind.i64.wrap (op - 121) + 103)) else (0, 0)
set_option maxRecDepth 100000 in
theorem ints_of (op : Int) : SCall Try.prog 25 [.int .i64 op] [] (fun x σ => x = .tup [.int .i64 (ofN op).1, .int .i64 (ofN op).2] ∧ σ = []) := by
  refine scall_of (n := 22) (ks := [0, 2, 3, 4, 10, 16]) Try.func25 rfl rfl (Nat.le_of_ble_eq_true rfl) ?_
  (refine ctlT ?_)
  refine rgT ?_
  refine lo (lop_assign (E rfl)) rfl ?_
  refine lo (lop_assign (E rfl)) rfl ?_
  refine leT ?_
  (refine ctlT ?_)
  refine rgT ?_
  refine lo (lop_move (E rfl)) rfl ?_
  (first | refine ln rfl rfl rfl rfl ?_ | refine lw rfl rfl (lop_no (v := .bool false)) rfl ?_ | refine pu [] Try.call26 (ints_between _ _ _) rfl argsT nofT ?_ | refine pug [] rfl rfl Try.call26 (fun _ => (ints_between _ _ _)) rfl argsT nofT ?_ | refine puw [] rfl rfl Try.call26 (fun _ => (ints_between _ _ _)) rfl argsT nofT ?_)
  refine lo (lop_assign (E rfl)) rfl ?_
  refine leT ?_
  (refine ctlT ?_)
  apply sw_orr rfl; exact fdelT
  · intro _; (refine ctlT ?_)
    refine rgT ?_
    refine lo (lop_move (E rfl)) rfl ?_
    (first | refine ln rfl rfl rfl rfl ?_ | refine lw rfl rfl (lop_no (v := .bool false)) rfl ?_ | refine pu [] Try.call26 (ints_between _ _ _) rfl argsT nofT ?_ | refine pug [] rfl rfl Try.call26 (fun _ => (ints_between _ _ _)) rfl argsT nofT ?_ | refine puw [] rfl rfl Try.call26 (fun _ => (ints_between _ _ _)) rfl argsT nofT ?_)
    refine lo (lop_assign (E rfl)) rfl ?_
    refine leT ?_
    (refine ctlT ?_)
    (exact sgoT)
  (refine ctlT ?_)
  refine sw_cond rfl (fun g1 => ?_) (fun g1 => ?_)
  · (refine ctlT ?_)
    refine rgT ?_
    refine lo (lop_move (E rfl)) rfl ?_
    refine lo (lop_assign (E rfl)) rfl ?_
    refine lo (lop_assign (E rfl)) rfl ?_
    refine leT ?_
    (refine ctlT ?_)
    (apply aend; (exact resT))
    · (unfold ofN; simp only [g1, if_true, if_false, Bool.false_eq_true]; exact ⟨rfl, rfl⟩)
    · (exact stleT)
  (refine ctlT ?_)
  refine rgT ?_
  refine lo (lop_move (E rfl)) rfl ?_
  (first | refine ln rfl rfl rfl rfl ?_ | refine lw rfl rfl (lop_no (v := .bool false)) rfl ?_ | refine pu [] Try.call26 (ints_between _ _ _) rfl argsT nofT ?_ | refine pug [] rfl rfl Try.call26 (fun _ => (ints_between _ _ _)) rfl argsT nofT ?_ | refine puw [] rfl rfl Try.call26 (fun _ => (ints_between _ _ _)) rfl argsT nofT ?_)
  refine lo (lop_assign (E rfl)) rfl ?_
  refine leT ?_
  (refine ctlT ?_)
  refine sw_cond rfl (fun g2 => ?_) (fun g2 => ?_)
  · (refine ctlT ?_)
    refine rgT ?_
    refine lo (lop_move (E rfl)) rfl ?_
    refine z19 ?_
    refine z17 ?_
    refine lo (lop_assign (E rfl)) rfl ?_
    refine lo (lop_assign (E rfl)) rfl ?_
    refine leT ?_
    (refine ctlT ?_)
    (apply aend; (exact resT))
    · (unfold ofN; simp only [g1, g2, if_true, if_false, Bool.false_eq_true]; exact ⟨rfl, rfl⟩)
    · (exact stleT)
  (refine ctlT ?_)
  refine rgT ?_
  refine lo (lop_move (E rfl)) rfl ?_
  (first | refine ln rfl rfl rfl rfl ?_ | refine lw rfl rfl (lop_no (v := .bool false)) rfl ?_ | refine pu [] Try.call26 (ints_between _ _ _) rfl argsT nofT ?_ | refine pug [] rfl rfl Try.call26 (fun _ => (ints_between _ _ _)) rfl argsT nofT ?_ | refine puw [] rfl rfl Try.call26 (fun _ => (ints_between _ _ _)) rfl argsT nofT ?_)
  refine lo (lop_assign (E rfl)) rfl ?_
  refine leT ?_
  (refine ctlT ?_)
  refine sw_cond rfl (fun g3 => ?_) (fun g3 => ?_)
  · (refine ctlT ?_)
    refine rgT ?_
    refine lo (lop_move (E rfl)) rfl ?_
    refine z19 ?_
    refine z17 ?_
    refine lo (lop_assign (E rfl)) rfl ?_
    refine lo (lop_assign (E rfl)) rfl ?_
    refine leT ?_
    (refine ctlT ?_)
    (apply aend; (exact resT))
    · (unfold ofN; simp only [g1, g2, g3, if_true, if_false, Bool.false_eq_true]; exact ⟨rfl, rfl⟩)
    · (exact stleT)
  (refine ctlT ?_)
  refine rgT ?_
  refine lo (lop_assign (E rfl)) rfl ?_
  refine lo (lop_assign (E rfl)) rfl ?_
  refine leT ?_
  (refine ctlT ?_)
  (apply aend; (exact resT))
  · (unfold ofN; simp only [g1, g2, g3, if_true, if_false, Bool.false_eq_true]; exact ⟨rfl, rfl⟩)
  · (exact stleT)
/-- what an instruction takes and makes; is it one? -/
def kN (op : Int) : List Int × Int × Bool :=
  if (op == 167) = true then ([2], 1, true) else if (op == 172 || op == 173) = true then ([1], 2, true)
  else if ((ofN op).1 == 0) = true then ([], 0, false) else if ((ofN op).2 == 69) = true then ([(ofN op).1], 1, true)
  else if bt2 (ofN op).2 70 79 = true then ([(ofN op).1, (ofN op).1], 1, true) else if bt2 (ofN op).2 103 105 = true then ([(ofN op).1], (ofN op).1, true)
  else ([(ofN op).1, (ofN op).1], (ofN op).1, true)
def kindsR (r : List Int × Int × Bool) (x : AV) (σ : Sto) : Prop :=
  if r.2.2 = true then ∃ q, x = .tup [.own q 0 r.1.length, .int .i64 r.2.1, .bool true] ∧ σ = [(q, .arr 3 1 (r.1.map encI))] else x = .tup [.ro 0 [] .nil, .int .i64 0, .bool false] ∧ σ = []
theorem kindsR_yes {l : List Int} {r : Int} {q : Nat} {x : AV} {σ : Sto} (hx : x = .tup [.own q 0 l.length, .int .i64 r, .bool true]) (hs : σ = [(q, .arr 3 1 (l.map encI))]) : kindsR (l, r, true) x σ := by
  unfold kindsR; rw [if_pos rfl]; exact ⟨q, hx, hs⟩
theorem kindsR_no {l : List Int} {r : Int} {x : AV} {σ : Sto} (hx : x = .tup [.ro 0 [] .nil, .int .i64 0, .bool false]) (hs : σ = []) : kindsR (l, r, false) x σ := by
  unfold kindsR; rw [if_neg (by simp)]; exact ⟨hx, hs⟩
set_option maxRecDepth 100000 in
theorem ints_kinds (op : Int) : SCall Try.prog 21 [.int .i64 op] [] (kindsR (kN op)) := by
  refine scall_of (n := 44) (ks := [0, 2, 3, 4, 5, 6, 7, 8, 11, 20, 23, 28, 34]) Try.func21 rfl rfl (Nat.le_of_ble_eq_true rfl) ?_
  (refine ctlT ?_)
  refine rgT ?_
  refine lo (lop_assign (E rfl)) rfl ?_
  refine lo (lop_assign (E rfl)) rfl ?_
  refine lo (lop_assign (E rfl)) rfl ?_
  refine leT ?_
  (refine ctlT ?_)
  refine rgT ?_
  refine lo (lop_move (E rfl)) rfl ?_
  refine leT ?_
  (refine ctlT ?_)
  refine rgT ?_
  refine lo (lop_eql (E rfl) (E rfl)) rfl ?_
  refine lo (lop_assign (E rfl)) rfl ?_
  refine leT ?_
  (refine ctlT ?_)
  refine sw_cond rfl (fun g1 => ?_) (fun g1 => ?_)
  · (refine ctlT ?_)
    refine rgT ?_
    refine z1 ?_; refine freshT fun r10 h10 => ?_; (repeat (rcases h10 with ⟨_, h10⟩))
    refine lo (lop_assign (E rfl)) rfl ?_
    refine lo (lop_assign (E rfl)) rfl ?_
    refine lo (lop_assign (E rfl)) rfl ?_
    refine leT ?_
    (refine ctlT ?_)
    (apply aend; (exact resT))
    · (unfold kN; simp only [g1, if_true, if_false, Bool.false_eq_true]; first | exact kindsR_yes rfl rfl | exact kindsR_no rfl rfl)
    · (exact stleT)
  (refine ctlT ?_)
  refine rgT ?_
  refine lo (lop_eql (E rfl) (E rfl)) rfl ?_
  refine lo (lop_assign (E rfl)) rfl ?_
  refine leT ?_
  (refine ctlT ?_)
  apply sw_orr rfl; exact fdelT
  · intro _; (refine ctlT ?_)
    refine rgT ?_
    refine lo (lop_eql (E rfl) (E rfl)) rfl ?_
    refine lo (lop_assign (E rfl)) rfl ?_
    refine leT ?_
    (refine ctlT ?_)
    (exact sgoT)
  (refine ctlT ?_)
  refine sw_cond rfl (fun g2 => ?_) (fun g2 => ?_)
  · (refine ctlT ?_)
    refine rgT ?_
    refine z1 ?_; refine freshT fun r14 h14 => ?_; (repeat (rcases h14 with ⟨_, h14⟩))
    refine lo (lop_assign (E rfl)) rfl ?_
    refine lo (lop_assign (E rfl)) rfl ?_
    refine lo (lop_assign (E rfl)) rfl ?_
    refine leT ?_
    (refine ctlT ?_)
    (apply aend; (exact resT))
    · (unfold kN; simp only [g1, g2, if_true, if_false, Bool.false_eq_true]; first | exact kindsR_yes rfl rfl | exact kindsR_no rfl rfl)
    · (exact stleT)
  (refine ctlT ?_)
  refine rgT ?_
  refine lo (lop_move (E rfl)) rfl ?_
  (first | refine ln rfl rfl rfl rfl ?_ | refine lw rfl rfl (lop_no (v := .bool false)) rfl ?_ | refine pu [] Try.call25 (ints_of _) rfl argsT nofT ?_ | refine pug [] rfl rfl Try.call25 (fun _ => (ints_of _)) rfl argsT nofT ?_ | refine puw [] rfl rfl Try.call25 (fun _ => (ints_of _)) rfl argsT nofT ?_)
  refine lo (lop_move (E rfl)) rfl ?_
  refine lo (lop_extract (E rfl) rfl) rfl ?_
  refine lo (lop_extract (E rfl) rfl) rfl ?_
  refine lo (lop_assign (E rfl)) rfl ?_
  refine lo (lop_assign (E rfl)) rfl ?_
  refine leT ?_
  (refine ctlT ?_)
  refine rgT ?_
  refine lo (lop_move (E rfl)) rfl ?_
  refine lo (lop_eql (E rfl) (E rfl)) rfl ?_
  refine lo (lop_assign (E rfl)) rfl ?_
  refine leT ?_
  (refine ctlT ?_)
  refine sw_cond rfl (fun g3 => ?_) (fun g3 => ?_)
  · (refine ctlT ?_)
    refine rgT ?_
    refine lo (lop_assign (E rfl)) rfl ?_
    refine lo (lop_assign (E rfl)) rfl ?_
    refine lo (lop_assign (E rfl)) rfl ?_
    refine leT ?_
    (refine ctlT ?_)
    (apply aend; (exact resT))
    · (unfold kN; simp only [g1, g2, g3, if_true, if_false, Bool.false_eq_true]; first | exact kindsR_yes rfl rfl | exact kindsR_no rfl rfl)
    · (exact stleT)
  (refine ctlT ?_)
  refine rgT ?_
  refine lo (lop_move (E rfl)) rfl ?_
  refine lo (lop_eql (E rfl) (E rfl)) rfl ?_
  refine lo (lop_assign (E rfl)) rfl ?_
  refine leT ?_
  (refine ctlT ?_)
  refine sw_cond rfl (fun g4 => ?_) (fun g4 => ?_)
  · (refine ctlT ?_)
    refine rgT ?_
    refine lo (lop_move (E rfl)) rfl ?_
    refine z1 ?_; refine freshT fun r27 h27 => ?_; (repeat (rcases h27 with ⟨_, h27⟩))
    refine lo (lop_assign (E rfl)) rfl ?_
    refine lo (lop_assign (E rfl)) rfl ?_
    refine lo (lop_assign (E rfl)) rfl ?_
    refine leT ?_
    (refine ctlT ?_)
    (apply aend; (exact resT))
    · (unfold kN; simp only [g1, g2, g3, g4, if_true, if_false, Bool.false_eq_true]; first | exact kindsR_yes rfl rfl | exact kindsR_no rfl rfl)
    · (exact stleT)
  (refine ctlT ?_)
  refine rgT ?_
  refine lo (lop_move (E rfl)) rfl ?_
  (first | refine ln rfl rfl rfl rfl ?_ | refine lw rfl rfl (lop_no (v := .bool false)) rfl ?_ | refine pu [] Try.call26 (ints_between _ _ _) rfl argsT nofT ?_ | refine pug [] rfl rfl Try.call26 (fun _ => (ints_between _ _ _)) rfl argsT nofT ?_ | refine puw [] rfl rfl Try.call26 (fun _ => (ints_between _ _ _)) rfl argsT nofT ?_)
  refine lo (lop_assign (E rfl)) rfl ?_
  refine leT ?_
  (refine ctlT ?_)
  refine sw_cond rfl (fun g5 => ?_) (fun g5 => ?_)
  · (refine ctlT ?_)
    refine rgT ?_
    refine lo (lop_move (E rfl)) rfl ?_
    refine lo (lop_move (E rfl)) rfl ?_
    refine z1 ?_; refine freshT fun r33 h33 => ?_; (repeat (rcases h33 with ⟨_, h33⟩))
    refine lo (lop_assign (E rfl)) rfl ?_
    refine lo (lop_assign (E rfl)) rfl ?_
    refine lo (lop_assign (E rfl)) rfl ?_
    refine leT ?_
    (refine ctlT ?_)
    (apply aend; (exact resT))
    · (unfold kN; simp only [g1, g2, g3, g4, g5, if_true, if_false, Bool.false_eq_true]; first | exact kindsR_yes rfl rfl | exact kindsR_no rfl rfl)
    · (exact stleT)
  (refine ctlT ?_)
  refine rgT ?_
  refine lo (lop_move (E rfl)) rfl ?_
  (first | refine ln rfl rfl rfl rfl ?_ | refine lw rfl rfl (lop_no (v := .bool false)) rfl ?_ | refine pu [] Try.call26 (ints_between _ _ _) rfl argsT nofT ?_ | refine pug [] rfl rfl Try.call26 (fun _ => (ints_between _ _ _)) rfl argsT nofT ?_ | refine puw [] rfl rfl Try.call26 (fun _ => (ints_between _ _ _)) rfl argsT nofT ?_)
  refine lo (lop_assign (E rfl)) rfl ?_
  refine leT ?_
  (refine ctlT ?_)
  refine sw_cond rfl (fun g6 => ?_) (fun g6 => ?_)
  · (refine ctlT ?_)
    refine rgT ?_
    refine lo (lop_move (E rfl)) rfl ?_
    refine z1 ?_; refine freshT fun r38 h38 => ?_; (repeat (rcases h38 with ⟨_, h38⟩))
    refine lo (lop_move (E rfl)) rfl ?_
    refine lo (lop_assign (E rfl)) rfl ?_
    refine lo (lop_assign (E rfl)) rfl ?_
    refine lo (lop_assign (E rfl)) rfl ?_
    refine leT ?_
    (refine ctlT ?_)
    (apply aend; (exact resT))
    · (unfold kN; simp only [g1, g2, g3, g4, g5, g6, if_true, if_false, Bool.false_eq_true]; first | exact kindsR_yes rfl rfl | exact kindsR_no rfl rfl)
    · (exact stleT)
  (refine ctlT ?_)
  refine rgT ?_
  refine lo (lop_move (E rfl)) rfl ?_
  refine lo (lop_move (E rfl)) rfl ?_
  refine z1 ?_; refine freshT fun r42 h42 => ?_; (repeat (rcases h42 with ⟨_, h42⟩))
  refine lo (lop_move (E rfl)) rfl ?_
  refine lo (lop_assign (E rfl)) rfl ?_
  refine lo (lop_assign (E rfl)) rfl ?_
  refine lo (lop_assign (E rfl)) rfl ?_
  refine leT ?_
  (refine ctlT ?_)
  (apply aend; (exact resT))
  · (unfold kN; simp only [g1, g2, g3, g4, g5, g6, if_true, if_false, Bool.false_eq_true]; first | exact kindsR_yes rfl rfl | exact kindsR_no rfl rfl)
  · (exact stleT)
def formW (op : Int) (k : Bool) : Int :=
  if (op == 0 || (op == 1 || (op == 5 || (op == 11 || (op == 15 || (op == 26 || op == 27)))))) = true then 1
  else if (op == 2 || (op == 3 || op == 4)) = true then 2
  else if (op == 12 || (op == 13 || (op == 16 || (op == 32 || (op == 33 || (op == 34 || (op == 35 || op == 36))))))) = true then 3
  else if (op == 14) = true then 4 else if (op == 17) = true then 5
  else if (op == 40 || (op == 41 || (op == 44 || (op == 45 || (op == 54 || (op == 55 || op == 58)))))) = true then 6
  else if (op == 63 || op == 64) = true then 7 else if (op == 65) = true then 8 else if (op == 66) = true then 9
  else if k = true then 1 else 0
theorem ints_kinds_ok (op : Int) : SCall Try.prog 21 [.int .i64 op] [] (fun x _ => ∃ a b, x = .tup [a, b, .bool (kN op).2.2]) :=
  (ints_kinds op).mono fun x σ h => by
    unfold kindsR at h
    split at h
    · next e => obtain ⟨q, rfl, -⟩ := h; exact ⟨_, _, by rw [e]⟩
    · next e => obtain ⟨rfl, -⟩ := h; exact ⟨_, _, by rw [show (kN op).2.2 = false by simpa using e]⟩
set_option maxRecDepth 100000 in
theorem instr_form (op : Int) : SCall Try.prog 13 [.int .i64 op] [] (fun x σ => x = .int .i64 (formW op (kN op).2.2) ∧ σ = []) := by
  refine scall_of (n := 54) (ks := [0, 2, 5, 6, 7, 15, 19, 28, 30, 32, 40, 43, 45, 53]) Try.func13 rfl rfl (Nat.le_of_ble_eq_true rfl) ?_
  (refine ctlT ?_)
  refine rgT ?_
  refine lo (lop_assign (E rfl)) rfl ?_
  refine leT ?_
  (refine ctlT ?_)
  refine rgT ?_
  refine lo (lop_move (E rfl)) rfl ?_
  refine leT ?_
  (refine ctlT ?_)
  refine rgT ?_
  refine lo (lop_eql (E rfl) (E rfl)) rfl ?_
  refine lo (lop_assign (E rfl)) rfl ?_
  refine leT ?_
  (refine ctlT ?_)
  apply sw_orr rfl; exact fdelT
  · intro _; (refine ctlT ?_)
    refine rgT ?_
    refine lo (lop_eql (E rfl) (E rfl)) rfl ?_
    refine lo (lop_assign (E rfl)) rfl ?_
    refine leT ?_
    (refine ctlT ?_)
    apply sw_orq rfl; exact fdelT
    · intro _; (refine ctlT ?_)
      refine rgT ?_
      refine lo (lop_eql (E rfl) (E rfl)) rfl ?_
      refine lo (lop_assign (E rfl)) rfl ?_
      refine leT ?_
      (refine ctlT ?_)
      apply sw_orq rfl; exact fdelT
      · intro _; (refine ctlT ?_)
        refine rgT ?_
        refine lo (lop_eql (E rfl) (E rfl)) rfl ?_
        refine lo (lop_assign (E rfl)) rfl ?_
        refine leT ?_
        (refine ctlT ?_)
        apply sw_orq rfl; exact fdelT
        · intro _; (refine ctlT ?_)
          refine rgT ?_
          refine lo (lop_eql (E rfl) (E rfl)) rfl ?_
          refine lo (lop_assign (E rfl)) rfl ?_
          refine leT ?_
          (refine ctlT ?_)
          apply sw_orq rfl; exact fdelT
          · intro _; (refine ctlT ?_)
            refine rgT ?_
            refine lo (lop_eql (E rfl) (E rfl)) rfl ?_
            refine lo (lop_assign (E rfl)) rfl ?_
            refine leT ?_
            (refine ctlT ?_)
            apply sw_orq rfl; exact fdelT
            · intro _; (refine ctlT ?_)
              refine rgT ?_
              refine lo (lop_eql (E rfl) (E rfl)) rfl ?_
              refine lo (lop_assign (E rfl)) rfl ?_
              refine leT ?_
              (refine ctlT ?_)
              (exact sgoT)
            (exact sgoT)
          (exact sgoT)
        (exact sgoT)
      (exact sgoT)
    (exact sgoT)
  (refine ctlT ?_)
  refine sw_cond rfl (fun g1 => ?_) (fun g1 => ?_)
  · (refine ctlT ?_)
    refine rgT ?_
    refine lo (lop_assign (E rfl)) rfl ?_
    refine leT ?_
    (refine ctlT ?_)
    (apply aend; (exact resT))
    · (unfold formW; simp only [g1, if_true, if_false, Bool.false_eq_true]; exact ⟨rfl, rfl⟩)
    · (exact stleT)
  (refine ctlT ?_)
  refine rgT ?_
  refine lo (lop_eql (E rfl) (E rfl)) rfl ?_
  refine lo (lop_assign (E rfl)) rfl ?_
  refine leT ?_
  (refine ctlT ?_)
  apply sw_orr rfl; exact fdelT
  · intro _; (refine ctlT ?_)
    refine rgT ?_
    refine lo (lop_eql (E rfl) (E rfl)) rfl ?_
    refine lo (lop_assign (E rfl)) rfl ?_
    refine leT ?_
    (refine ctlT ?_)
    apply sw_orq rfl; exact fdelT
    · intro _; (refine ctlT ?_)
      refine rgT ?_
      refine lo (lop_eql (E rfl) (E rfl)) rfl ?_
      refine lo (lop_assign (E rfl)) rfl ?_
      refine leT ?_
      (refine ctlT ?_)
      (exact sgoT)
    (exact sgoT)
  (refine ctlT ?_)
  refine sw_cond rfl (fun g2 => ?_) (fun g2 => ?_)
  · (refine ctlT ?_)
    refine rgT ?_
    refine lo (lop_assign (E rfl)) rfl ?_
    refine leT ?_
    (refine ctlT ?_)
    (apply aend; (exact resT))
    · (unfold formW; simp only [g1, g2, if_true, if_false, Bool.false_eq_true]; exact ⟨rfl, rfl⟩)
    · (exact stleT)
  (refine ctlT ?_)
  refine rgT ?_
  refine lo (lop_eql (E rfl) (E rfl)) rfl ?_
  refine lo (lop_assign (E rfl)) rfl ?_
  refine leT ?_
  (refine ctlT ?_)
  apply sw_orr rfl; exact fdelT
  · intro _; (refine ctlT ?_)
    refine rgT ?_
    refine lo (lop_eql (E rfl) (E rfl)) rfl ?_
    refine lo (lop_assign (E rfl)) rfl ?_
    refine leT ?_
    (refine ctlT ?_)
    apply sw_orq rfl; exact fdelT
    · intro _; (refine ctlT ?_)
      refine rgT ?_
      refine lo (lop_eql (E rfl) (E rfl)) rfl ?_
      refine lo (lop_assign (E rfl)) rfl ?_
      refine leT ?_
      (refine ctlT ?_)
      apply sw_orq rfl; exact fdelT
      · intro _; (refine ctlT ?_)
        refine rgT ?_
        refine lo (lop_eql (E rfl) (E rfl)) rfl ?_
        refine lo (lop_assign (E rfl)) rfl ?_
        refine leT ?_
        (refine ctlT ?_)
        apply sw_orq rfl; exact fdelT
        · intro _; (refine ctlT ?_)
          refine rgT ?_
          refine lo (lop_eql (E rfl) (E rfl)) rfl ?_
          refine lo (lop_assign (E rfl)) rfl ?_
          refine leT ?_
          (refine ctlT ?_)
          apply sw_orq rfl; exact fdelT
          · intro _; (refine ctlT ?_)
            refine rgT ?_
            refine lo (lop_eql (E rfl) (E rfl)) rfl ?_
            refine lo (lop_assign (E rfl)) rfl ?_
            refine leT ?_
            (refine ctlT ?_)
            apply sw_orq rfl; exact fdelT
            · intro _; (refine ctlT ?_)
              refine rgT ?_
              refine lo (lop_eql (E rfl) (E rfl)) rfl ?_
              refine lo (lop_assign (E rfl)) rfl ?_
              refine leT ?_
              (refine ctlT ?_)
              apply sw_orq rfl; exact fdelT
              · intro _; (refine ctlT ?_)
                refine rgT ?_
                refine lo (lop_eql (E rfl) (E rfl)) rfl ?_
                refine lo (lop_assign (E rfl)) rfl ?_
                refine leT ?_
                (refine ctlT ?_)
                (exact sgoT)
              (exact sgoT)
            (exact sgoT)
          (exact sgoT)
        (exact sgoT)
      (exact sgoT)
    (exact sgoT)
  (refine ctlT ?_)
  refine sw_cond rfl (fun g3 => ?_) (fun g3 => ?_)
  · (refine ctlT ?_)
    refine rgT ?_
    refine lo (lop_assign (E rfl)) rfl ?_
    refine leT ?_
    (refine ctlT ?_)
    (apply aend; (exact resT))
    · (unfold formW; simp only [g1, g2, g3, if_true, if_false, Bool.false_eq_true]; exact ⟨rfl, rfl⟩)
    · (exact stleT)
  (refine ctlT ?_)
  refine rgT ?_
  refine lo (lop_eql (E rfl) (E rfl)) rfl ?_
  refine lo (lop_assign (E rfl)) rfl ?_
  refine leT ?_
  (refine ctlT ?_)
  refine sw_cond rfl (fun g4 => ?_) (fun g4 => ?_)
  · (refine ctlT ?_)
    refine rgT ?_
    refine lo (lop_assign (E rfl)) rfl ?_
    refine leT ?_
    (refine ctlT ?_)
    (apply aend; (exact resT))
    · (unfold formW; simp only [g1, g2, g3, g4, if_true, if_false, Bool.false_eq_true]; exact ⟨rfl, rfl⟩)
    · (exact stleT)
  (refine ctlT ?_)
  refine rgT ?_
  refine lo (lop_eql (E rfl) (E rfl)) rfl ?_
  refine lo (lop_assign (E rfl)) rfl ?_
  refine leT ?_
  (refine ctlT ?_)
  refine sw_cond rfl (fun g5 => ?_) (fun g5 => ?_)
  · (refine ctlT ?_)
    refine rgT ?_
    refine lo (lop_assign (E rfl)) rfl ?_
    refine leT ?_
    (refine ctlT ?_)
    (apply aend; (exact resT))
    · (unfold formW; simp only [g1, g2, g3, g4, g5, if_true, if_false, Bool.false_eq_true]; exact ⟨rfl, rfl⟩)
    · (exact stleT)
  (refine ctlT ?_)
  refine rgT ?_
  refine lo (lop_eql (E rfl) (E rfl)) rfl ?_
  refine lo (lop_assign (E rfl)) rfl ?_
  refine leT ?_
  (refine ctlT ?_)
  apply sw_orr rfl; exact fdelT
  · intro _; (refine ctlT ?_)
    refine rgT ?_
    refine lo (lop_eql (E rfl) (E rfl)) rfl ?_
    refine lo (lop_assign (E rfl)) rfl ?_
    refine leT ?_
    (refine ctlT ?_)
    apply sw_orq rfl; exact fdelT
    · intro _; (refine ctlT ?_)
      refine rgT ?_
      refine lo (lop_eql (E rfl) (E rfl)) rfl ?_
      refine lo (lop_assign (E rfl)) rfl ?_
      refine leT ?_
      (refine ctlT ?_)
      apply sw_orq rfl; exact fdelT
      · intro _; (refine ctlT ?_)
        refine rgT ?_
        refine lo (lop_eql (E rfl) (E rfl)) rfl ?_
        refine lo (lop_assign (E rfl)) rfl ?_
        refine leT ?_
        (refine ctlT ?_)
        apply sw_orq rfl; exact fdelT
        · intro _; (refine ctlT ?_)
          refine rgT ?_
          refine lo (lop_eql (E rfl) (E rfl)) rfl ?_
          refine lo (lop_assign (E rfl)) rfl ?_
          refine leT ?_
          (refine ctlT ?_)
          apply sw_orq rfl; exact fdelT
          · intro _; (refine ctlT ?_)
            refine rgT ?_
            refine lo (lop_eql (E rfl) (E rfl)) rfl ?_
            refine lo (lop_assign (E rfl)) rfl ?_
            refine leT ?_
            (refine ctlT ?_)
            apply sw_orq rfl; exact fdelT
            · intro _; (refine ctlT ?_)
              refine rgT ?_
              refine lo (lop_eql (E rfl) (E rfl)) rfl ?_
              refine lo (lop_assign (E rfl)) rfl ?_
              refine leT ?_
              (refine ctlT ?_)
              (exact sgoT)
            (exact sgoT)
          (exact sgoT)
        (exact sgoT)
      (exact sgoT)
    (exact sgoT)
  (refine ctlT ?_)
  refine sw_cond rfl (fun g6 => ?_) (fun g6 => ?_)
  · (refine ctlT ?_)
    refine rgT ?_
    refine lo (lop_assign (E rfl)) rfl ?_
    refine leT ?_
    (refine ctlT ?_)
    (apply aend; (exact resT))
    · (unfold formW; simp only [g1, g2, g3, g4, g5, g6, if_true, if_false, Bool.false_eq_true]; exact ⟨rfl, rfl⟩)
    · (exact stleT)
  (refine ctlT ?_)
  refine rgT ?_
  refine lo (lop_eql (E rfl) (E rfl)) rfl ?_
  refine lo (lop_assign (E rfl)) rfl ?_
  refine leT ?_
  (refine ctlT ?_)
  apply sw_orr rfl; exact fdelT
  · intro _; (refine ctlT ?_)
    refine rgT ?_
    refine lo (lop_eql (E rfl) (E rfl)) rfl ?_
    refine lo (lop_assign (E rfl)) rfl ?_
    refine leT ?_
    (refine ctlT ?_)
    (exact sgoT)
  (refine ctlT ?_)
  refine sw_cond rfl (fun g7 => ?_) (fun g7 => ?_)
  · (refine ctlT ?_)
    refine rgT ?_
    refine lo (lop_assign (E rfl)) rfl ?_
    refine leT ?_
    (refine ctlT ?_)
    (apply aend; (exact resT))
    · (unfold formW; simp only [g1, g2, g3, g4, g5, g6, g7, if_true, if_false, Bool.false_eq_true]; exact ⟨rfl, rfl⟩)
    · (exact stleT)
  (refine ctlT ?_)
  refine rgT ?_
  refine lo (lop_eql (E rfl) (E rfl)) rfl ?_
  refine lo (lop_assign (E rfl)) rfl ?_
  refine leT ?_
  (refine ctlT ?_)
  refine sw_cond rfl (fun g8 => ?_) (fun g8 => ?_)
  · (refine ctlT ?_)
    refine rgT ?_
    refine lo (lop_assign (E rfl)) rfl ?_
    refine leT ?_
    (refine ctlT ?_)
    (apply aend; (exact resT))
    · (unfold formW; simp only [g1, g2, g3, g4, g5, g6, g7, g8, if_true, if_false, Bool.false_eq_true]; exact ⟨rfl, rfl⟩)
    · (exact stleT)
  (refine ctlT ?_)
  refine rgT ?_
  refine lo (lop_eql (E rfl) (E rfl)) rfl ?_
  refine lo (lop_assign (E rfl)) rfl ?_
  refine leT ?_
  (refine ctlT ?_)
  refine sw_cond rfl (fun g9 => ?_) (fun g9 => ?_)
  · (refine ctlT ?_)
    refine rgT ?_
    refine lo (lop_assign (E rfl)) rfl ?_
    refine leT ?_
    (refine ctlT ?_)
    (apply aend; (exact resT))
    · (unfold formW; simp only [g1, g2, g3, g4, g5, g6, g7, g8, g9, if_true, if_false, Bool.false_eq_true]; exact ⟨rfl, rfl⟩)
    · (exact stleT)
  (refine ctlT ?_)
  refine rgT ?_
  refine lo (lop_move (E rfl)) rfl ?_
  refine cw [] Try.call21 (ints_kinds_ok op) rfl ?_ ?_ ?_
  · (exact argsleT)
  · (exact stleT)
  rintro _ σ' ⟨a, b, rfl⟩ -
  (apply rs_sto; (exact nflT))
  refine lo (lop_move (E rfl)) rfl ?_
  refine lo (lop_extract (E rfl) rfl) rfl ?_
  refine lo (lop_extract (E rfl) rfl) rfl ?_
  refine lo (lop_extract (E rfl) rfl) rfl ?_
  refine lo (lop_assign (E rfl)) rfl ?_
  refine lo (lop_assign (E rfl)) rfl ?_
  refine lo (lop_assign (E rfl)) rfl ?_
  refine leT ?_
  (refine ctlT ?_)
  refine rgT ?_
  refine lo (lop_move (E rfl)) rfl ?_
  refine leT ?_
  (refine ctlT ?_)
  refine sw_cond rfl (fun g10 => ?_) (fun g10 => ?_)
  · (refine ctlT ?_)
    refine rgT ?_
    refine lo (lop_assign (E rfl)) rfl ?_
    refine leT ?_
    (refine ctlT ?_)
    (apply aend; (exact resT))
    · (unfold formW; simp only [g1, g2, g3, g4, g5, g6, g7, g8, g9, g10, if_true, if_false, Bool.false_eq_true]; exact ⟨rfl, rfl⟩)
    · (exact stleT)
  (refine ctlT ?_)
  refine rgT ?_
  refine lo (lop_assign (E rfl)) rfl ?_
  refine leT ?_
  (refine ctlT ?_)
  (apply aend; (exact resT))
  · (unfold formW; simp only [g1, g2, g3, g4, g5, g6, g7, g8, g9, g10, if_true, if_false, Bool.false_eq_true]; exact ⟨rfl, rfl⟩)
  · (exact stleT)
/-! ### the two are one -/
def kOk (op : Int) : Bool := decide (69 ≤ op ∧ op ≤ 90 ∨ 103 ≤ op ∧ op ≤ 138 ∨ op = 167 ∨ op = 172 ∨ op = 173)
theorem bt2_eq (n a b : Int) : bt2 n a b = decide (a ≤ n ∧ n ≤ b) := by
  unfold bt2
  by_cases h : a ≤ n <;> simp [h]
theorem ofN_zero (op : Int) : ((ofN op).1 == 0) = !decide (69 ≤ op ∧ op ≤ 90 ∨ 103 ≤ op ∧ op ≤ 138) := by
  unfold ofN
  simp only [bt2_eq, Bool.or_eq_true, decide_eq_true_eq]
  repeat' split
  · rw [decide_eq_true (by omega)]; rfl
  · rw [decide_eq_true (by omega)]; rfl
  · rw [decide_eq_true (by omega)]; rfl
  · rw [decide_eq_false (by omega)]; rfl
theorem kN_ok (op : Int) : (kN op).2.2 = kOk op := by
  unfold kN
  rw [ofN_zero]
  unfold kOk
  by_cases h1 : op = 167
  · subst h1; decide
  by_cases h2 : op = 172 ∨ op = 173
  · rcases h2 with rfl | rfl <;> decide
  by_cases h3 : 69 ≤ op ∧ op ≤ 90 ∨ 103 ≤ op ∧ op ≤ 138
  · rw [decide_eq_true h3, decide_eq_true (by omega)]
    repeat' split
    all_goals first | rfl | simp_all
  · rw [decide_eq_false h3, decide_eq_false (by omega), if_neg (by simp; omega), if_neg (by simp; omega)]
    rfl
def formN (op : Int) : Int := formW op (kOk op)
end Go.Proofs.Ytjpdadobblffmaa
/-
  The symbolic layer: function values and calls of them. No program is named here.
-/
namespace Go.Proofs.Ytjpdadobblffmaa
open Go.RowKit Go.ChangeShapes Go.WideShapes Go.ChangeAt Go.Deep
theorem vr_at {M : Mp} {F : Nat → Prop} {w : World} {xs : List AV} {us : List Value} (hl : us.length = xs.length) (h : ∀ (i : Nat) (v : AV), xs[i]? = some v → ∃ u, us[i]? = some u ∧ VR M F w v u) : ∀ (j : Nat) (a : AV) (u : Value), xs[j]? = some a → us[j]? = some u → VR M F w a u := by
  intro j a u ha hu
  obtain ⟨u', hu', hv⟩ := h j a ha
  rw [hu] at hu'
  cases hu'
  exact hv
/-- a function value: its code, what it holds -/
theorem lop_func {P : Program} {ty : TypeId} {s : ASt} {c : Bool} {fn : Fn} {first captured : Array Operand} {xs cs : List AV} (h1 : AEvs s first.toList xs) (h2 : AEvs s captured.toList cs) : Lop P (.makeFunc fn first captured) ty s c (.fn fn xs cs) [] :=
  Lop.pure_ fun M F N n a w hr hc => by
    obtain ⟨l1, k1⟩ := h1.at_ hr
    obtain ⟨l2, k2⟩ := h2.at_ hr
    refine ⟨.func fn (first.map a.eval) (captured.map a.eval), .fn ?_ ?_ ?_ ?_, fun w' o ho _ => ?_⟩
    · rw [← l1]; simp
    · intro j a' u ha hu
      refine vr_at l1 k1 j a' u ha ?_
      rw [← hu, ← Array.getElem?_toList]; simp
    · rw [← l2]; simp
    · intro j a' u ha hu
      refine vr_at l2 k2 j a' u ha ?_
      rw [← hu, ← Array.getElem?_toList]; simp
    · simp only [execOp, ho, Instr.makeFunc, Sem.run_bind, Sem.run_pure, Result.andThen_ok]
end Go.Proofs.Ytjpdadobblffmaa
/-
  Instructions: which may be, which are the same.
-/
namespace Go.Proofs.Ytjpdadobblffmaa
open Go.RowKit Go.ChangeShapes Go.WideShapes Go.ChangeAt Go.Deep
attribute [local irreducible] SW RS RD AThen ABlock
structure Ins where
  op : Int
  a : Int
  b : Int
  l : List Int
/-- an instruction as parts; its list in words k -/
def iv (k : Rk) (x : Ins) : List AV := [.int .i64 x.op, .int .i64 x.a, .int .i64 x.b, .ro 1 (x.l.map encI) k]
def Ins.Ok (x : Ins) : Prop := -9223372036854775808 ≤ x.op ∧ x.op ≤ 9223372036854775807 ∧ -9223372036854775808 ≤ x.a ∧ x.a ≤ 9223372036854775807 ∧ x.l.length ≤ 9223372036854775807
theorem instr_formN (op : Int) : SCall Try.prog 13 [.int .i64 op] [] (fun x σ => x = .int .i64 (formN op) ∧ σ = []) := by
  have := instr_form op
  rwa [kN_ok] at this
def preN (x : Ins) (f : Int) : Bool := if (if (f != 4) = true then decide (0 < (x.l.length : Int)) else false) = true then true else if (f != 6) = true then (x.b != 0) else false
/-- which instructions may be -/
def mayN (x : Ins) : Bool :=
  if preN x (formN x.op) = true then false
  else if (formN x.op == 1 || formN x.op == 7) = true then (x.a == 0)
  else if (formN x.op == 2) = true then bt2 x.a 0 2
  else if (formN x.op == 3 || formN x.op == 5) = true then bt2 x.a 0 1000
  else if (formN x.op == 4) = true then (if (if bt2 x.a 0 1000 = true then decide ((x.l.length : Int) ≤ 50) else false) = true then !(x.l.any fun n => !bt2 n 0 1000) else false)
  else if (formN x.op == 6) = true then (if bt2 x.a 0 3 = true then bt2 x.b 0 4294967295 else false)
  else if (formN x.op == 8) = true then bt2 x.a (-2147483648) 2147483647
  else (formN x.op == 9)
/-- the same, part by part? -/
def eqN (x y : Ins) : Bool := decide (x.op = y.op ∧ x.a = y.a ∧ x.b = y.b ∧ x.l = y.l)
end Go.Proofs.Ytjpdadobblffmaa
/-
  Instructions as bytes: what is written.
-/
namespace Go.Proofs.Ytjpdadobblffmaa
open Go.RowKit Go.ChangeShapes Go.WideShapes Go.ChangeAt Go.Deep
attribute [local irreducible] SW RS RD AThen ABlock
theorem may_none {x : Ins} (h : formN x.op = 0) : mayN x = false := by
  unfold mayN
  split
  · rfl
  · simp [h]
theorem form_op {op : Int} (h : formN op ≠ 0) : 0 ≤ op ∧ op ≤ 173 := by
  unfold formN formW kOk at h
  simp only [Bool.or_eq_true, beq_iff_eq, decide_eq_true_eq] at h
  by_cases hc : 0 ≤ op ∧ op ≤ 173
  · exact hc
  · exfalso
    repeat rw [if_neg (by omega)] at h
    exact h rfl
theorem may_op {x : Ins} (h : mayN x = true) : 0 ≤ x.op ∧ x.op ≤ 173 := by
  refine form_op fun h0 => ?_
  rw [may_none h0] at h
  cases h
theorem may2 {x : Ins} (h : mayN x = true) (hf : (formN x.op == 2) = true) : 0 ≤ x.a ∧ x.a ≤ 2 := by
  rw [beq_iff_eq] at hf
  simp [mayN, hf, bt2_eq] at h
  omega
theorem may3 {x : Ins} (h : mayN x = true) (hf : (formN x.op == 3) = true) : 0 ≤ x.a ∧ x.a ≤ 1000 := by
  rw [beq_iff_eq] at hf
  simp [mayN, hf, bt2_eq] at h
  omega
theorem may5 {x : Ins} (h : mayN x = true) (hf : (formN x.op == 5) = true) : 0 ≤ x.a ∧ x.a ≤ 1000 := by
  rw [beq_iff_eq] at hf
  simp [mayN, hf, bt2_eq] at h
  omega
theorem may4 {x : Ins} (h : mayN x = true) (hf : (formN x.op == 4) = true) : (0 ≤ x.a ∧ x.a ≤ 1000) ∧ x.l.length ≤ 50 ∧ ∀ n ∈ x.l, 0 ≤ n ∧ n ≤ 1000 := by
  rw [beq_iff_eq] at hf
  simp [mayN, hf, bt2_eq] at h
  obtain ⟨h1, ⟨h2, h3⟩, h4⟩ := h
  exact ⟨h2, by omega, h4⟩
theorem may6 {x : Ins} (h : mayN x = true) (hf : (formN x.op == 6) = true) : 0 ≤ x.a ∧ x.a ≤ 3 ∧ 0 ≤ x.b ∧ x.b ≤ 4294967295 := by
  rw [beq_iff_eq] at hf
  simp [mayN, hf, bt2_eq] at h
  omega
def kindB (a : Int) : Nat := if a = 0 then 64 else if a = 1 then 127 else 126
/-- what stands behind an instruction's byte -/
def putT (x : Ins) : List Nat :=
  if (formN x.op == 2) = true then [kindB x.a] else if (formN x.op == 3) = true then uB x.a.toNat else if (formN x.op == 5) = true then uB x.a.toNat ++ [0]
  else if (formN x.op == 4) = true then uB x.l.length ++ (x.l.flatMap fun n => uB n.toNat) ++ uB x.a.toNat else if (formN x.op == 6) = true then uB x.a.toNat ++ uB x.b.toNat
  else if (formN x.op == 7) = true then [0] else if (formN x.op == 8 || formN x.op == 9) = true then sB x.a else []
def putN (x : Ins) : List Nat := x.op.toNat :: putT x
theorem flat_len : ∀ {l : List Int}, (∀ n ∈ l, 0 ≤ n ∧ n ≤ 1000) → (l.flatMap fun n => uB n.toNat).length ≤ 2 * l.length
  | [], _ => by simp
  | n :: l, h => by
    have ih := flat_len (l := l) fun m hm => h m (List.mem_cons_of_mem _ hm)
    have hn := h n List.mem_cons_self
    have h1 := uB_len 1 n.toNat (by omega)
    simp only [List.flatMap_cons, List.length_append, List.length_cons]
    omega
theorem kind_at {a : Int} (h : 0 ≤ a ∧ a ≤ 2) : ([.int .u8 64, .int .u8 127, .int .u8 126] : List AV)[a.toNat]? = some (.int .u8 (kindB a : Nat)) := by
  have : a = 0 ∨ a = 1 ∨ a = 2 := by omega
  rcases this with rfl | rfl | rfl <;> rfl
set_option maxRecDepth 100000 in
theorem instr_put (q : Nat) (vs : List Nat) (hvs : vs.length ≤ 50000000) (k : Rk) (x : Ins) (hx : x.Ok) (hm : mayN x = true) : SCall Try.prog 11 [.own q 0 vs.length, .agg (iv k x)] [(q, .arr 5 1 (vs.map encU))]
    (fun y σ => ∃ r, y = .own r 0 (vs ++ putN x).length ∧ σ = [(r, .arr 5 1 ((vs ++ putN x).map encU))]) := by
  have f1 := may_op hm
  have f2 := may2 hm
  have f3 := may3 hm
  have f4 := may4 hm
  have f5 := may5 hm
  have f6 := may6 hm
  have f8 : -9223372036854775808 ≤ x.a ∧ x.a ≤ 9223372036854775807 := ⟨hx.2.2.1, hx.2.2.2.1⟩
  obtain ⟨op, ai, bi, l⟩ := x
  dsimp only at f1 f2 f3 f4 f5 f6 f8
  obtain ⟨op, rfl⟩ := Int.eq_ofNat_of_zero_le f1.1
  have hvo : vs ++ putN ⟨(op : Int), ai, bi, l⟩ = (vs ++ [op]) ++ putT ⟨(op : Int), ai, bi, l⟩ := by simp [putN]
  rw [hvo]
  obtain ⟨us, hus⟩ : ∃ us, us = vs ++ [op] := ⟨_, rfl⟩
  have hul : us.length ≤ 50000001 := by rw [hus]; simp; omega
  refine scall_of (n := 90) (ks := [0, 1, 3, 4, 6, 15, 16, 25, 32, 41, 50, 51, 52, 53, 66, 77, 82]) Try.func11 rfl rfl (Nat.le_of_ble_eq_true rfl) ?_
  unfold iv
  dsimp only
  (refine ctlT ?_)
  refine rgT ?_
  apply bx; rfl; rfl; (exact zcT); rfl; refine freshT fun r3 h3 => ?_; (repeat (rcases h3 with ⟨_, h3⟩))
  refine lo (lop_assign (E rfl)) rfl ?_
  refine leT ?_
  (refine ctlT ?_)
  refine rgT ?_
  refine lo (lop_move (E rfl)) rfl ?_
  refine z59 ?_
  refine z60 ?_
  refine z0 ?_
  refine z1 ?_; refine freshT fun r11 h11 => ?_; (repeat (rcases h11 with ⟨_, h11⟩))
  apply ap (es' := (vs ++ [op]).map encU) (len' := (vs ++ [op]).length); rfl; rfl; (exact sgT)
  · simp
  · exact .inr (.inr ⟨_, _, _, _, _, rfl, sgT, by simp, rfl⟩)
  · first | (simp [encU]; done) | (simp only [List.drop_zero, List.map_append]; congr 1; exact List.take_of_length_le (by simp))
  · simp; try omega
  · simp [maxLen]; try omega
  · simp; try omega
  · rfl
  refine apnT fun r12 h12 => ?_; (repeat (rcases h12 with ⟨_, h12⟩))
  refine lo (lop_assign (E rfl)) rfl ?_
  refine leT ?_
  (refine ctlT ?_)
  rw [← hus]
  refine rgT ?_
  refine z59 ?_
  refine z60 ?_
  (first | refine ln rfl rfl rfl rfl ?_ | refine lw rfl rfl (lop_no (v := .bool false)) rfl ?_ | refine pu [] Try.call13 (instr_formN _) rfl argsT nofT ?_ | refine pug [] rfl rfl Try.call13 (fun _ => (instr_formN _)) rfl argsT nofT ?_ | refine puw [] rfl rfl Try.call13 (fun _ => (instr_formN _)) rfl argsT nofT ?_)
  refine leT ?_
  (refine ctlT ?_)
  refine rgT ?_
  refine lo (lop_eql (E rfl) (E rfl)) rfl ?_
  refine lo (lop_assign (E rfl)) rfl ?_
  refine leT ?_
  (refine ctlT ?_)
  refine sw_cond rfl (fun g1 => ?_) (fun g1 => ?_)
  · (refine ctlT ?_)
    have ha := f2 g1
    have hp : putT ⟨(op : Int), ai, bi, l⟩ = [kindB ai] := by unfold putT; simp only [g1, if_true, if_false, Bool.false_eq_true]
    refine rgT ?_
    refine lo (lop_move (E rfl)) rfl ?_
    refine lo (lop_arr3 (z := _) ⟨_, _, _, rfl⟩) rfl ?_
    refine z59 ?_
    refine z60 ?_
    refine lo (lop_index rfl (E rfl) (E rfl) (fun _ => by omega) (fun _ => kind_at ha)) rfl ?_
    refine z1 ?_; refine freshT fun r23 h23 => ?_; (repeat (rcases h23 with ⟨_, h23⟩))
    apply ap (es' := (us ++ [kindB ai]).map encU) (len' := (us ++ [kindB ai]).length); rfl; rfl; (exact sgT)
    · simp
    · exact .inr (.inr ⟨_, _, _, _, _, rfl, sgT, by simp, rfl⟩)
    · first | (simp [encU]; done) | (simp only [List.drop_zero, List.map_append]; congr 1; exact List.take_of_length_le (by simp))
    · simp; try omega
    · simp [maxLen]; try omega
    · simp; try omega
    · rfl
    refine apnT fun r24 h24 => ?_; (repeat (rcases h24 with ⟨_, h24⟩))
    refine lo (lop_assign (E rfl)) rfl ?_
    refine leT ?_
    (refine ctlT ?_)
    rw [hp]
    (apply aend; (exact resT))
    · exact ⟨_, rfl, rfl⟩
    · (exact stleT)
  (refine ctlT ?_)
  refine rgT ?_
  refine lo (lop_eql (E rfl) (E rfl)) rfl ?_
  refine lo (lop_assign (E rfl)) rfl ?_
  refine leT ?_
  (refine ctlT ?_)
  refine sw_cond rfl (fun g2 => ?_) (fun g2 => ?_)
  · (refine ctlT ?_)
    have ha := f3 g2
    obtain ⟨a, rfl⟩ := Int.eq_ofNat_of_zero_le ha.1
    have hp : putT ⟨(op : Int), (a : Int), bi, l⟩ = uB a := by unfold putT; simp only [g1, g2, if_true, if_false, Bool.false_eq_true, Int.toNat_natCast]
    refine rgT ?_
    refine lo (lop_move (E rfl)) rfl ?_
    refine z59 ?_
    refine z60 ?_
    refine z24 ?_
    refine cw [(r12, .arr 5 1 ((us).map encU))] Try.call14 (leb_putU r12 (us) (by first | omega | (simp; omega)) a (by omega)) rfl ?_ ?_ ?_
    · (exact argsleT)
    · (exact stleT)
    rintro _ σ' ⟨ra, rfl, rfl⟩ hra
    have kra := rest1T hra; (repeat (rcases kra with ⟨_, kra⟩))
    (apply rs_sto; (exact nflT))
    refine lo (lop_assign (E rfl)) rfl ?_
    refine leT ?_
    (refine ctlT ?_)
    rw [hp]
    (apply aend; (exact resT))
    · exact ⟨_, rfl, rfl⟩
    · (exact stleT)
  (refine ctlT ?_)
  refine rgT ?_
  refine lo (lop_eql (E rfl) (E rfl)) rfl ?_
  refine lo (lop_assign (E rfl)) rfl ?_
  refine leT ?_
  (refine ctlT ?_)
  refine sw_cond rfl (fun g3 => ?_) (fun g3 => ?_)
  · (refine ctlT ?_)
    have ha := f5 g3
    obtain ⟨a, rfl⟩ := Int.eq_ofNat_of_zero_le ha.1
    have hp : putT ⟨(op : Int), (a : Int), bi, l⟩ = uB a ++ [0] := by unfold putT; simp only [g1, g2, g3, if_true, if_false, Bool.false_eq_true, Int.toNat_natCast]
    have hal := uB_len 1 a (by omega)
    refine rgT ?_
    refine lo (lop_move (E rfl)) rfl ?_
    refine z59 ?_
    refine z60 ?_
    refine z24 ?_
    refine cw [(r12, .arr 5 1 ((us).map encU))] Try.call14 (leb_putU r12 (us) (by first | omega | (simp; omega)) a (by omega)) rfl ?_ ?_ ?_
    · (exact argsleT)
    · (exact stleT)
    rintro _ σ' ⟨ra, rfl, rfl⟩ hra
    have kra := rest1T hra; (repeat (rcases kra with ⟨_, kra⟩))
    (apply rs_sto; (exact nflT))
    refine z1 ?_; refine freshT fun r39 h39 => ?_; (repeat (rcases h39 with ⟨_, h39⟩))
    apply ap (es' := ((us ++ uB a) ++ [0]).map encU) (len' := ((us ++ uB a) ++ [0]).length); rfl; rfl; (exact sgT)
    · simp
    · exact .inr (.inr ⟨_, _, _, _, _, rfl, sgT, by simp, rfl⟩)
    · first | (simp [encU]; done) | (simp only [List.drop_zero, List.map_append]; congr 1; exact List.take_of_length_le (by simp))
    · simp; try omega
    · simp [maxLen]; try omega
    · simp; try omega
    · rfl
    refine apnT fun r40 h40 => ?_; (repeat (rcases h40 with ⟨_, h40⟩))
    refine lo (lop_assign (E rfl)) rfl ?_
    refine leT ?_
    (refine ctlT ?_)
    rw [hp, ← List.append_assoc]
    (apply aend; (exact resT))
    · exact ⟨_, rfl, rfl⟩
    · (exact stleT)
  (refine ctlT ?_)
  refine rgT ?_
  refine lo (lop_eql (E rfl) (E rfl)) rfl ?_
  refine lo (lop_assign (E rfl)) rfl ?_
  refine leT ?_
  (refine ctlT ?_)
  refine sw_cond rfl (fun g4 => ?_) (fun g4 => ?_)
  · (refine ctlT ?_)
    have ha := f4 g4
    obtain ⟨⟨ha0, ha1⟩, hl50, hall⟩ := ha
    obtain ⟨a, rfl⟩ := Int.eq_ofNat_of_zero_le ha0
    have hp : putT ⟨(op : Int), (a : Int), bi, l⟩ = uB l.length ++ (l.flatMap fun n => uB n.toNat) ++ uB a := by unfold putT; simp only [g1, g2, g3, g4, if_true, if_false, Bool.false_eq_true, Int.toNat_natCast]
    have hal := uB_len 1 a (by omega)
    have hll := uB_len 1 l.length (by omega)
    have hfl := flat_len hall
    refine rgT ?_
    refine lo (lop_move (E rfl)) rfl ?_
    refine z59 ?_
    refine z60 ?_
    refine z14 ?_
    refine z24 ?_
    refine cw [(r12, .arr 5 1 ((us).map encU))] Try.call14 (leb_putU r12 (us) (by first | omega | (simp; omega)) l.length (by omega)) rfl ?_ ?_ ?_
    · (exact argsleT)
    · (exact stleT)
    rintro _ σ' ⟨ra, rfl, rfl⟩ hra
    have kra := rest1T hra; (repeat (rcases kra with ⟨_, kra⟩))
    (apply rs_sto; (exact nflT))
    refine lo (lop_assign (E rfl)) rfl ?_
    refine leT ?_
    (refine ctlT ?_)
    refine rgT ?_
    refine z59 ?_
    refine z60 ?_
    refine z14 ?_
    refine lo (lop_move (E rfl)) rfl ?_
    refine leT ?_
    (refine ctlT ?_)
    obtain ⟨ws, hws⟩ : ∃ ws, ws = us ++ uB l.length := ⟨_, rfl⟩
    have hwl : ws.length ≤ 50000003 := by rw [hws]; simp; omega
    rw [← hws]
    have hpre : ∀ j, (us ++ uB l.length ++ ((l.take j).flatMap fun n => uB n.toNat)).length ≤ 50000103 := fun j => by
      have := flat_len (l := l.take j) fun n hn => hall n (List.mem_of_mem_take hn)
      simp at this ⊢
      omega
    refine lp (β := Nat × Nat) (fun b => ⟨[(0, .own b.1 0 (ws ++ ((l.take b.2).flatMap fun n => uB n.toNat)).length), (3, .ptr r3 0), (50, .ro 1 (l.map encI) k), (51, .int .i64 l.length), (52, .int .i64 b.2)], [(b.1, .arr 5 1 ((ws ++ ((l.take b.2).flatMap fun n => uB n.toNat)).map encU)), (r3, .box 27 [.int .i64 op, .int .i64 a, .int .i64 bi, .ro 1 (l.map encI) k])]⟩) (fun b => Nq b.1 r3 ∧ b.2 ≤ l.length) (fun b => l.length - b.2) (ra, 0) ?_ ⟨?_, Nat.zero_le _⟩ ?_
    · simp only [List.take_zero, List.flatMap_nil, List.append_nil]; (exact sgoT)
    · show Nq ra r3; (exact nqT)
    rintro ⟨rb, j⟩ ⟨hrb, hj⟩
    dsimp only at hrb hj ⊢
    have hpj := hpre j
    rw [← hws] at hpj
    (refine ctlT ?_)
    refine rgT ?_
    refine lo (lop_lss (E rfl) (E rfl)) rfl ?_
    refine leT ?_
    (refine ctlT ?_)
    refine sw_cond rfl (fun h1 => ?_) (fun h1 => ?_)
    · have hlt : j < l.length := by simp at h1; omega
      obtain ⟨y, hy⟩ : ∃ y, l[j]? = some y := ⟨_, List.getElem?_eq_getElem hlt⟩
      obtain ⟨hy0, hy1⟩ := hall y (List.mem_of_getElem? hy)
      obtain ⟨z, rfl⟩ := Int.eq_ofNat_of_zero_le hy0
      (refine ctlT ?_)
      refine rgT ?_
      refine z15 ?_
      refine z16 ?_
      refine lo (lop_assign (E rfl)) rfl ?_
      refine leT ?_
      (refine ctlT ?_)
      refine rgT ?_
      refine lo (lop_move (E rfl)) rfl ?_
      refine lo (lop_move (E rfl)) rfl ?_
      refine z24 ?_
      refine cw [(rb, .arr 5 1 ((ws ++ ((l.take j).flatMap fun n => uB n.toNat)).map encU))] Try.call14 (leb_putU rb (ws ++ ((l.take j).flatMap fun n => uB n.toNat)) (by first | omega | (simp; omega)) z (by omega)) rfl ?_ ?_ ?_
      · (exact argsleT)
      · (exact stleT)
      rintro _ σ' ⟨rc, rfl, rfl⟩ hrc
      have krc := rest1T hrc; (repeat (rcases krc with ⟨_, krc⟩))
      (apply rs_sto; (exact nflT))
      refine lo (lop_assign (E rfl)) rfl ?_
      refine leT ?_
      (refine ctlT ?_)
      refine rgT ?_
      refine z17 ?_
      refine lo (lop_move (E rfl)) rfl ?_
      refine leT ?_
      (refine ctlT ?_)
      have hnx : ws ++ ((l.take j).flatMap fun n => uB n.toNat) ++ uB z = ws ++ ((l.take (j + 1)).flatMap fun n => uB n.toNat) := by
        rw [List.take_add_one, hy, List.flatMap_append, List.append_assoc]
        simp
      rw [hnx]
      refine ⟨(rc, j + 1), ⟨by show Nq rc r3; (exact nqT), hlt⟩, by show l.length - (j + 1) < l.length - j; omega, ?_⟩
      (exact sgoT)
    · obtain rfl : j = l.length := by simp at h1; omega
      rw [List.take_length] at hpj ⊢
      (refine ctlT ?_)
      refine rgT ?_
      refine lo (lop_move (E rfl)) rfl ?_
      refine z59 ?_
      refine z60 ?_
      refine z24 ?_
      refine cw [(rb, .arr 5 1 ((ws ++ (l.flatMap fun n => uB n.toNat)).map encU))] Try.call14 (leb_putU rb (ws ++ (l.flatMap fun n => uB n.toNat)) (by first | omega | (simp; omega)) a (by omega)) rfl ?_ ?_ ?_
      · (exact argsleT)
      · (exact stleT)
      rintro _ σ' ⟨rd, rfl, rfl⟩ hrd
      have krd := rest1T hrd; (repeat (rcases krd with ⟨_, krd⟩))
      (apply rs_sto; (exact nflT))
      refine lo (lop_assign (E rfl)) rfl ?_
      refine leT ?_
      (refine ctlT ?_)
      rw [hp, show us ++ (uB l.length ++ (l.flatMap fun n => uB n.toNat) ++ uB a) = ws ++ (l.flatMap fun n => uB n.toNat) ++ uB a by rw [hws]; simp]
      (apply aend; (exact resT))
      · exact ⟨_, rfl, rfl⟩
      · (exact stleT)
  (refine ctlT ?_)
  refine rgT ?_
  refine lo (lop_eql (E rfl) (E rfl)) rfl ?_
  refine lo (lop_assign (E rfl)) rfl ?_
  refine leT ?_
  (refine ctlT ?_)
  refine sw_cond rfl (fun g5 => ?_) (fun g5 => ?_)
  · (refine ctlT ?_)
    have ha := f6 g5
    obtain ⟨ha0, ha1, hb0, hb1⟩ := ha
    obtain ⟨a, rfl⟩ := Int.eq_ofNat_of_zero_le ha0
    obtain ⟨b, rfl⟩ := Int.eq_ofNat_of_zero_le hb0
    have hp : putT ⟨(op : Int), (a : Int), (b : Int), l⟩ = uB a ++ uB b := by unfold putT; simp only [g1, g2, g3, g4, g5, if_true, if_false, Bool.false_eq_true, Int.toNat_natCast]
    have hal := uB_len 1 a (by omega)
    refine rgD [(0, true), (1, true), (2, true), (3, true), (5, true), (6, true), (7, true), (4, false), (8, false), (9, true)] ?_
    refine dlo rfl (lop_move (E rfl)) rfl ?_
    refine z73 ?_
    refine z74 ?_
    refine z75 ?_
    refine z73 ?_
    refine z74 ?_
    refine z75 ?_
    refine dcw [(r12, .arr 5 1 ((us).map encU))] rfl Try.call14 (leb_putU r12 (us) (by first | omega | (simp; omega)) a (by omega)) rfl ?_ ?_ ?_ ?_
    · (exact argsleT)
    · (exact stleT)
    · (exact hbtT)
    rintro _ σ' ⟨ra, rfl, rfl⟩ hra
    have kra := rest1T hra; (repeat (rcases kra with ⟨_, kra⟩))
    (apply rd_sto; (exact nflT))
    refine dcw [(ra, .arr 5 1 ((us ++ uB a).map encU))] rfl Try.call14 (leb_putU ra (us ++ uB a) (by first | omega | (simp; omega)) b (by omega)) rfl ?_ ?_ ?_ ?_
    · (exact argsleT)
    · (exact stleT)
    · (exact hbtT)
    rintro _ σ' ⟨rb, rfl, rfl⟩ hrb
    have krb := rest1T hrb; (repeat (rcases krb with ⟨_, krb⟩))
    (apply rd_sto; (exact nflT))
    refine dlo rfl (lop_assign (E rfl)) rfl ?_
    refine deT ?_
    (refine ctlT ?_)
    rw [hp, ← List.append_assoc]
    (apply aend; (exact resT))
    · exact ⟨_, rfl, rfl⟩
    · (exact stleT)
  (refine ctlT ?_)
  refine rgT ?_
  refine lo (lop_eql (E rfl) (E rfl)) rfl ?_
  refine lo (lop_assign (E rfl)) rfl ?_
  refine leT ?_
  (refine ctlT ?_)
  refine sw_cond rfl (fun g6 => ?_) (fun g6 => ?_)
  · (refine ctlT ?_)
    have hp : putT ⟨(op : Int), ai, bi, l⟩ = [0] := by unfold putT; simp only [g1, g2, g3, g4, g5, g6, if_true, if_false, Bool.false_eq_true]
    refine rgT ?_
    refine lo (lop_move (E rfl)) rfl ?_
    refine z1 ?_; refine freshT fun r80 h80 => ?_; (repeat (rcases h80 with ⟨_, h80⟩))
    apply ap (es' := (us ++ [0]).map encU) (len' := (us ++ [0]).length); rfl; rfl; (exact sgT)
    · simp
    · exact .inr (.inr ⟨_, _, _, _, _, rfl, sgT, by simp, rfl⟩)
    · first | (simp [encU]; done) | (simp only [List.drop_zero, List.map_append]; congr 1; exact List.take_of_length_le (by simp))
    · simp; try omega
    · simp [maxLen]; try omega
    · simp; try omega
    · rfl
    refine apnT fun r81 h81 => ?_; (repeat (rcases h81 with ⟨_, h81⟩))
    refine lo (lop_assign (E rfl)) rfl ?_
    refine leT ?_
    (refine ctlT ?_)
    rw [hp]
    (apply aend; (exact resT))
    · exact ⟨_, rfl, rfl⟩
    · (exact stleT)
  (refine ctlT ?_)
  refine rgT ?_
  refine lo (lop_eql (E rfl) (E rfl)) rfl ?_
  refine lo (lop_assign (E rfl)) rfl ?_
  refine leT ?_
  (refine ctlT ?_)
  apply sw_orr rfl; exact fdelT
  · intro _; (refine ctlT ?_)
    refine rgT ?_
    refine lo (lop_eql (E rfl) (E rfl)) rfl ?_
    refine lo (lop_assign (E rfl)) rfl ?_
    refine leT ?_
    (refine ctlT ?_)
    (exact sgoT)
  (refine ctlT ?_)
  refine sw_cond rfl (fun g7 => ?_) (fun g7 => ?_)
  · (refine ctlT ?_)
    have hp : putT ⟨(op : Int), ai, bi, l⟩ = sB ai := by unfold putT; simp only [g1, g2, g3, g4, g5, g6, g7, if_true, if_false, Bool.false_eq_true]
    refine rgT ?_
    refine lo (lop_move (E rfl)) rfl ?_
    refine z59 ?_
    refine z60 ?_
    refine cw [(r12, .arr 5 1 (us.map encU))] Try.call15 (leb_putS r12 us (by omega) ai f8) rfl ?_ ?_ ?_
    · (exact argsleT)
    · (exact stleT)
    rintro _ σ' ⟨ra, rfl, rfl⟩ hra
    (apply rs_sto; (exact nflT))
    refine lo (lop_assign (E rfl)) rfl ?_
    refine leT ?_
    (refine ctlT ?_)
    rw [hp]
    (apply aend; (exact resT))
    · exact ⟨_, rfl, rfl⟩
    · (exact stleT)
  (refine ctlT ?_)
  refine rgT ?_
  refine lo (lop_move (E rfl)) rfl ?_
  refine lo (lop_assign (E rfl)) rfl ?_
  refine leT ?_
  (refine ctlT ?_)
  (apply aend; (exact resT))
  · (unfold putT; simp only [g1, g2, g3, g4, g5, g6, g7, if_true, if_false, Bool.false_eq_true, List.append_nil]; exact ⟨_, rfl, rfl⟩)
  · (exact stleT)
end Go.Proofs.Ytjpdadobblffmaa
/-
  Reading parts of bytes: package instr's reader.
-/
namespace Go.Proofs.Ytjpdadobblffmaa
open Go.RowKit Go.ChangeShapes Go.WideShapes Go.ChangeAt Go.Deep
attribute [local irreducible] SW RS RD AThen ABlock
/-- a reader's parts: the bytes, where it is, its error -/
def rv (l : List Nat) (n : Nat) (e : Int) : List AV := [.ro 1 (l.map encU) .any, .int .i64 n, .int .i64 e]
def rdB (l : List Nat) (n : Nat) (e : Int) : Nat × Nat × Int :=
  if (e != 0) = true then (0, n, e) else if ((n : Int) == (l.length : Int)) = true then (0, n, 2) else (l[n]!, n + 1, e)
def rdU (l : List Nat) (lim : Int) (n : Nat) (e : Int) : Nat × Nat × Int :=
  if (e != 0) = true then (0, n, e) else if ((getU (l.drop n)).2.2 != 0) = true then (0, n, (getU (l.drop n)).2.2) else if decide (lim < ((getU (l.drop n)).1 : Int)) = true then (0, n, 1) else ((getU (l.drop n)).1, n + (getU (l.drop n)).2.1, (getU (l.drop n)).2.2)
def rdS (l : List Nat) (bits : Nat) (n : Nat) : Int × Nat × Int := ((getS bits (l.drop n)).1, n + (getS bits (l.drop n)).2.1, (getS bits (l.drop n)).2.2)
set_option maxRecDepth 100000 in
theorem rdr_byte (r : Nat) (l : List Nat) (hl : l.length ≤ 1000000) (hlt : ∀ x ∈ l, x < 256) (n : Nat) (hn : n ≤ l.length) (e : Int) : SCall Try.prog 16 [.ptr r 0] [(r, .box 52 (rv l n e))]
    (fun x σ => x = .int .i64 ((rdB l n e).1 : Nat) ∧ σ = [(r, .box 52 (rv l (rdB l n e).2.1 (rdB l n e).2.2))]) := by
  refine scall_of (n := 42) (ks := [0, 2, 3, 9]) Try.func16 rfl rfl (Nat.le_of_ble_eq_true rfl) ?_
  unfold rv
  (refine ctlT ?_)
  refine rgT ?_
  refine lo (lop_assign (E rfl)) rfl ?_
  refine leT ?_
  (refine ctlT ?_)
  refine rgT ?_
  refine lo (lop_move (E rfl)) rfl ?_
  refine z76 ?_
  refine z59 ?_
  refine z60 ?_
  refine lo (lop_neq (E rfl) (E rfl)) rfl ?_
  refine lo (lop_assign (E rfl)) rfl ?_
  refine leT ?_
  (refine ctlT ?_)
  refine sw_cond rfl (fun g1 => ?_) (fun g1 => ?_)
  · (refine ctlT ?_)
    refine rgT ?_
    refine lo (lop_assign (E rfl)) rfl ?_
    refine leT ?_
    (refine ctlT ?_)
    (apply aend; (exact resT))
    · (unfold rdB; simp only [g1, if_true, if_false, Bool.false_eq_true]; exact ⟨rfl, rfl⟩)
    · (exact stleT)
  (refine ctlT ?_)
  refine rgD [(0, true), (1, true), (2, true), (3, true), (4, true), (5, true), (6, true), (7, true), (8, true), (9, true), (10, true)] ?_
  refine dlo rfl (lop_move (E rfl)) rfl ?_
  refine z77 ?_
  refine z73 ?_
  refine z74 ?_
  refine dlo rfl (lop_move (E rfl)) rfl ?_
  refine z77 ?_
  refine z73 ?_
  refine z74 ?_
  refine z78 ?_
  refine z79 ?_
  refine dlo rfl (lop_assign (E rfl)) rfl ?_
  refine deT ?_
  (refine ctlT ?_)
  refine sw_cond rfl (fun g2 => ?_) (fun g2 => ?_)
  · (refine ctlT ?_)
    refine rgT ?_
    refine lo (lop_move (E rfl)) rfl ?_
    refine z76 ?_
    refine z59 ?_
    apply stp; rfl; rfl; rfl; rfl; (exact sputT)
    refine leT ?_
    (refine ctlT ?_)
    refine rgT ?_
    refine lo (lop_assign (E rfl)) rfl ?_
    refine leT ?_
    (refine ctlT ?_)
    (apply aend; (exact resT))
    · (unfold rdB; simp only [g1, g2, if_true, if_false, Bool.false_eq_true]; exact ⟨rfl, rfl⟩)
    · (exact stleT)
  (refine ctlT ?_)
  refine rgT ?_
  refine lo (lop_move (E rfl)) rfl ?_
  refine z76 ?_
  refine z59 ?_
  refine z60 ?_
  refine z17 ?_
  refine z76 ?_
  refine z59 ?_
  apply stp; rfl; rfl; rfl; rfl; (exact sputT)
  refine leT ?_
  (refine ctlT ?_)
  have hlt2 : n < l.length := by simp at g2; omega
  refine rgD [(0, true), (1, true), (2, true), (3, true), (4, true), (5, true), (6, true), (7, true), (8, true), (9, true), (10, true), (11, true), (12, true)] ?_
  refine dlo rfl (lop_move (E rfl)) rfl ?_
  refine z77 ?_
  refine z73 ?_
  refine z74 ?_
  refine dlo rfl (lop_move (E rfl)) rfl ?_
  refine z77 ?_
  refine z73 ?_
  refine z74 ?_
  refine z82 ?_
  rw [show (n : Int) + 1 - 1 = (n : Nat) by omega]
  refine z56 ?_
  refine z57 ?_
  rw [Int.toNat_natCast]
  have hb8 := getB_lt hlt n
  refine z83 ?_
  refine dlo rfl (lop_assign (E rfl)) rfl ?_
  refine deT ?_
  (refine ctlT ?_)
  (apply aend; (exact resT))
  · (unfold rdB; simp only [g1, g2, if_true, if_false, Bool.false_eq_true]; exact ⟨rfl, rfl⟩)
  · (exact stleT)
def rdZ (l : List Nat) (n : Nat) (e : Int) : Nat × Int := if (((rdB l n e).1 : Int) != 0) = true then ((rdB l n e).2.1, 1) else (rdB l n e).2
set_option maxRecDepth 100000 in
theorem rdr_zero (r : Nat) (l : List Nat) (hl : l.length ≤ 1000000) (hlt : ∀ x ∈ l, x < 256) (n : Nat) (hn : n ≤ l.length) (e : Int) : SCall Try.prog 19 [.ptr r 0] [(r, .box 52 (rv l n e))]
    (fun x σ => x = .tup [] ∧ σ = [(r, .box 52 (rv l (rdZ l n e).1 (rdZ l n e).2))]) := by
  refine scall_of (n := 8) (ks := [0, 4]) Try.func19 rfl rfl (Nat.le_of_ble_eq_true rfl) ?_
  unfold rv
  (refine ctlT ?_)
  refine rgT ?_
  refine lo (lop_move (E rfl)) rfl ?_
  refine cw [(r, .box 52 (rv l n e))] Try.call16 (rdr_byte r l hl hlt n hn e) rfl ?_ ?_ ?_
  · (exact argsleT)
  · (exact stleT)
  rintro _ σ' ⟨rfl, rfl⟩ -
  (apply rs_sto; (exact nflT))
  refine lo (lop_neq (E rfl) (E rfl)) rfl ?_
  refine leT ?_
  (refine ctlT ?_)
  unfold rv
  refine sw_cond rfl (fun g1 => ?_) (fun g1 => ?_)
  · (refine ctlT ?_)
    refine rgT ?_
    refine lo (lop_move (E rfl)) rfl ?_
    refine z76 ?_
    refine z59 ?_
    apply stp; rfl; rfl; rfl; rfl; (exact sputT)
    refine leT ?_
    (refine ctlT ?_)
    refine aend_n ?_
    (apply aend; (exact resT))
    · unfold rdZ; rw [if_pos g1]; exact ⟨rfl, rfl⟩
    · (exact stleT)
  · (refine ctlT ?_)
    refine aend_n ?_
    (apply aend; (exact resT))
    · unfold rdZ; rw [if_neg (by rw [g1]; simp)]; exact ⟨rfl, rfl⟩
    · (exact stleT)
theorem drop_encU {l : List Nat} {n : Nat} : List.take ((l.map encU).length - n) (List.drop n (l.map encU)) = (l.drop n).map encU := by
  rw [List.map_drop, List.take_of_length_le (by simp)]
theorem unsigned_yes {e : Int} {b : Bool} (h : (if (e == 0) = true then b else false) = true) : e = 0 ∧ b = true := by
  split at h
  · next h1 => exact ⟨by simpa using h1, h⟩
  · cases h
theorem unsigned_no {e : Int} {b : Bool} (h : (if (e == 0) = true then b else false) = false) (h0 : (e != 0) = false) : e = 0 ∧ b = false := by
  have h1 : e = 0 := by simpa using h0
  subst h1
  exact ⟨rfl, h⟩
set_option maxRecDepth 100000 in
theorem rdr_unsigned (r : Nat) (l : List Nat) (hl : l.length ≤ 1000000) (hlt : ∀ x ∈ l, x < 256) (lim : Int) (n : Nat) (hn : n ≤ l.length) (e : Int) : SCall Try.prog 18 [.ptr r 0, .int .i64 lim] [(r, .box 52 (rv l n e))]
    (fun x σ => x = .int .i64 ((rdU l lim n e).1 : Nat) ∧ σ = [(r, .box 52 (rv l (rdU l lim n e).2.1 (rdU l lim n e).2.2))]) := by
  have hbd := getU_bd (l.drop n)
  obtain ⟨hb1, hb2, hb3⟩ := hbd
  rw [List.length_drop] at hb2
  refine scall_of (n := 51) (ks := [0, 1, 4, 5, 6, 7, 12, 34, 40]) Try.func18 rfl rfl (Nat.le_of_ble_eq_true rfl) ?_
  unfold rv
  (refine ctlT ?_)
  refine rgT ?_
  refine lo (lop_assign (E rfl)) rfl ?_
  refine leT ?_
  (refine ctlT ?_)
  refine rgT ?_
  refine lo (lop_move (E rfl)) rfl ?_
  refine z76 ?_
  refine z59 ?_
  refine z60 ?_
  refine lo (lop_neq (E rfl) (E rfl)) rfl ?_
  refine leT ?_
  (refine ctlT ?_)
  refine sw_cond rfl (fun g1 => ?_) (fun g1 => ?_)
  · (refine ctlT ?_)
    refine rgT ?_
    refine lo (lop_assign (E rfl)) rfl ?_
    refine leT ?_
    (refine ctlT ?_)
    (apply aend; (exact resT))
    · (unfold rdU; simp only [g1, if_true, if_false, Bool.false_eq_true]; first | exact ⟨rfl, rfl⟩ | (have hd := unsigned_no g2 g3; simp only [hd.2, Bool.false_eq_true, if_false]; exact ⟨rfl, rfl⟩))
    · (exact stleT)
  (refine ctlT ?_)
  refine rgD [(0, true), (1, true), (2, true), (3, true), (4, true), (5, true), (6, true), (7, true), (8, true), (9, false), (10, true), (11, true), (12, true), (13, true), (14, true), (15, true), (16, true)] ?_
  refine dlo rfl (lop_move (E rfl)) rfl ?_
  refine z77 ?_
  refine z73 ?_
  refine z74 ?_
  refine dlo rfl (lop_move (E rfl)) rfl ?_
  refine z77 ?_
  refine z73 ?_
  refine z74 ?_
  refine z84 ?_
  rw [drop_encU]
  refine dpu [] rfl Try.call23 (leb_U (l.drop n) (by rw [List.length_drop]; omega) (fun x hx => hlt x (List.mem_of_mem_drop hx))) rfl argsT nofT ?_
  refine dlo rfl (lop_move (E rfl)) rfl ?_
  refine z85 ?_
  refine z85 ?_
  refine z85 ?_
  refine dlo rfl (lop_assign (E rfl)) rfl ?_
  refine dlo rfl (lop_assign (E rfl)) rfl ?_
  refine dlo rfl (lop_assign (E rfl)) rfl ?_
  refine deT ?_
  (refine ctlT ?_)
  refine rgT ?_
  refine lo (lop_move (E rfl)) rfl ?_
  refine lo (lop_eql (E rfl) (E rfl)) rfl ?_
  refine lo (lop_move (E rfl)) rfl ?_
  refine z4 ?_
  refine z80 ?_
  refine z4 ?_
  refine z81 ?_
  refine z7 ?_
  refine leT ?_
  (refine ctlT ?_)
  refine sw_cond rfl (fun g2 => ?_) (fun g2 => ?_)
  · (refine ctlT ?_)
    refine rgT ?_
    refine lo (lop_assign (E rfl)) rfl ?_
    refine leT ?_
    (refine ctlT ?_)
    refine rgT ?_
    refine lo (lop_move (E rfl)) rfl ?_
    refine lo (lop_move (E rfl)) rfl ?_
    refine z76 ?_
    refine z59 ?_
    apply stp; rfl; rfl; rfl; rfl; (exact sputT)
    refine leT ?_
    (refine ctlT ?_)
    refine rgT ?_
    refine lo (lop_move (E rfl)) rfl ?_
    refine lo (lop_neq (E rfl) (E rfl)) rfl ?_
    refine leT ?_
    (refine ctlT ?_)
    refine rgT ?_
    refine lo (lop_assign (E rfl)) rfl ?_
    refine leT ?_
    (refine ctlT ?_)
    (apply aend; (exact resT))
    · unfold rdU
      have hd := unsigned_yes g2
      simp only [g1, hd.1, hd.2, bne_self_eq_false, Bool.false_eq_true, if_true, if_false]
      exact ⟨rfl, rfl⟩
    · (exact stleT)
  (refine ctlT ?_)
  refine rgT ?_
  refine lo (lop_move (E rfl)) rfl ?_
  refine lo (lop_move (E rfl)) rfl ?_
  refine z76 ?_
  refine z59 ?_
  apply stp; rfl; rfl; rfl; rfl; (exact sputT)
  refine leT ?_
  (refine ctlT ?_)
  refine rgT ?_
  refine lo (lop_move (E rfl)) rfl ?_
  refine lo (lop_neq (E rfl) (E rfl)) rfl ?_
  refine leT ?_
  (refine ctlT ?_)
  refine sw_cond rfl (fun g3 => ?_) (fun g3 => ?_)
  · (refine ctlT ?_)
    refine rgT ?_
    refine lo (lop_assign (E rfl)) rfl ?_
    refine leT ?_
    (refine ctlT ?_)
    (apply aend; (exact resT))
    · (unfold rdU; simp only [g1, g2, g3, if_true, if_false, Bool.false_eq_true]; first | exact ⟨rfl, rfl⟩ | (have hd := unsigned_no g2 g3; simp only [hd.2, Bool.false_eq_true, if_false]; exact ⟨rfl, rfl⟩))
    · (exact stleT)
  (refine ctlT ?_)
  refine rgT ?_
  refine lo (lop_move (E rfl)) rfl ?_
  refine z76 ?_
  refine z59 ?_
  refine z60 ?_
  refine lo (lop_move (E rfl)) rfl ?_
  refine z17 ?_
  refine z76 ?_
  refine z59 ?_
  apply stp; rfl; rfl; rfl; rfl; (exact sputT)
  refine leT ?_
  (refine ctlT ?_)
  refine rgT ?_
  refine lo (lop_move (E rfl)) rfl ?_
  refine z44 ?_
  refine lo (lop_assign (E rfl)) rfl ?_
  refine leT ?_
  (refine ctlT ?_)
  (apply aend; (exact resT))
  · (unfold rdU; simp only [g1, g2, g3, if_true, if_false, Bool.false_eq_true]; first | exact ⟨rfl, rfl⟩ | (have hd := unsigned_no g2 g3; simp only [hd.2, Bool.false_eq_true, if_false]; exact ⟨rfl, rfl⟩))
  · (exact stleT)
set_option maxRecDepth 100000 in
theorem rdr_signed (r : Nat) (l : List Nat) (hl : l.length ≤ 1000000) (hlt : ∀ x ∈ l, x < 256) (bits : Nat) (hb : bits = 32 ∨ bits = 64) (n : Nat) (hn : n ≤ l.length) (e : Int) : SCall Try.prog 20 [.ptr r 0, .int .i64 bits] [(r, .box 52 (rv l n e))]
    (fun x σ => x = .int .i64 (rdS l bits n).1 ∧ σ = [(r, .box 52 (rv l (rdS l bits n).2.1 (rdS l bits n).2.2))]) := by
  have hbd := getS_bd bits (l.drop n)
  rw [List.length_drop] at hbd
  refine scall_of (n := 37) (ks := [0, 1, 4, 5, 6, 7]) Try.func20 rfl rfl (Nat.le_of_ble_eq_true rfl) ?_
  unfold rv rdS
  (refine ctlT ?_)
  refine rgT ?_
  refine lo (lop_assign (E rfl)) rfl ?_
  refine leT ?_
  (refine ctlT ?_)
  refine rgD [(0, true), (1, true), (2, true), (3, true), (4, true), (5, true), (6, true), (7, true), (8, true), (9, true), (10, false), (11, true), (12, true), (13, true), (14, true), (15, true), (16, true), (17, true)] ?_
  refine dlo rfl (lop_move (E rfl)) rfl ?_
  refine z77 ?_
  refine z73 ?_
  refine z74 ?_
  refine dlo rfl (lop_move (E rfl)) rfl ?_
  refine z77 ?_
  refine z73 ?_
  refine z74 ?_
  refine z84 ?_
  refine dlo rfl (lop_move (E rfl)) rfl ?_
  rw [drop_encU]
  refine dpu [] rfl Try.call24 (leb_S (l.drop n) (by rw [List.length_drop]; omega) (fun x hx => hlt x (List.mem_of_mem_drop hx)) bits hb) rfl argsT nofT ?_
  refine dlo rfl (lop_move (E rfl)) rfl ?_
  refine z85 ?_
  refine z85 ?_
  refine z85 ?_
  refine dlo rfl (lop_assign (E rfl)) rfl ?_
  refine dlo rfl (lop_assign (E rfl)) rfl ?_
  refine dlo rfl (lop_assign (E rfl)) rfl ?_
  refine deT ?_
  (refine ctlT ?_)
  refine rgT ?_
  refine lo (lop_move (E rfl)) rfl ?_
  refine lo (lop_move (E rfl)) rfl ?_
  refine lo (lop_move (E rfl)) rfl ?_
  refine z76 ?_
  refine z59 ?_
  refine z60 ?_
  refine lo (lop_move (E rfl)) rfl ?_
  refine z17 ?_
  refine lo (lop_move (E rfl)) rfl ?_
  refine z76 ?_
  refine z59 ?_
  apply stp; rfl; rfl; rfl; rfl; (exact sputT)
  refine z76 ?_
  refine z59 ?_
  apply stp; rfl; rfl; rfl; rfl; (exact sputT)
  refine leT ?_
  (refine ctlT ?_)
  refine rgT ?_
  refine lo (lop_move (E rfl)) rfl ?_
  refine lo (lop_assign (E rfl)) rfl ?_
  refine leT ?_
  (refine ctlT ?_)
  (apply aend; (exact resT))
  · exact ⟨rfl, rfl⟩
  · (exact stleT)
end Go.Proofs.Ytjpdadobblffmaa
/-
  Reading parts of bytes, in the document's words; slices.Index at numbers; a block's kind.
-/
namespace Go.Proofs.Ytjpdadobblffmaa
open Go.RowKit Go.ChangeShapes Go.WideShapes Go.ChangeAt Go.Deep
attribute [local irreducible] SW RS RD AThen ABlock
/-- where y stands in l first; -1: nowhere -/
def idxN (l : List Int) (y : Int) : Int := match l.findIdx? (· == y) with | some i => i | none => -1
set_option maxRecDepth 100000 in
theorem lib_index_int {k : Rk} (l : List Int) (y : Int) : SCall Try.prog 22 [.ro 1 (l.map encI) k, .int .i64 y] [] (fun x σ => x = .int .i64 (idxN l y) ∧ σ = []) := by
  refine scall_of (n := 19) (ks := [0, 1, 4, 5, 7, 8, 9, 16]) Try.func22 rfl rfl (Nat.le_of_ble_eq_true rfl) ?_
  refine sw_max (i := 0) rfl fun hm => ?_
  rw [List.length_map] at hm
  unfold maxLen at hm
  (refine ctlT ?_)
  refine rgT ?_
  refine lo (lop_assign (E rfl)) rfl ?_
  refine leT ?_
  (refine ctlT ?_)
  refine rgT ?_
  refine lo (lop_move (E rfl)) rfl ?_
  refine z14 ?_
  refine lo (lop_move (E rfl)) rfl ?_
  refine leT ?_
  (refine ctlT ?_)
  refine lp (β := Nat) (fun j => ⟨[(0, .ro 1 (l.map encI) k), (1, .int .i64 y), (7, .int .i64 l.length), (8, .int .i64 j)], []⟩) (fun j => j ≤ l.length ∧ ∀ i, i < j → l[i]? ≠ some y) (fun j => l.length - j) 0 ?_ ⟨Nat.zero_le _, fun i hi => by omega⟩ ?_
  · (exact sgoT)
  rintro j ⟨hj, ht⟩
  (refine ctlT ?_)
  refine rgT ?_
  refine lo (lop_lss (E rfl) (E rfl)) rfl ?_
  refine leT ?_
  (refine ctlT ?_)
  refine sw_cond rfl (fun h1 => ?_) (fun h1 => ?_)
  · have hlt : j < l.length := by simp at h1; omega
    obtain ⟨x, hx⟩ : ∃ x, l[j]? = some x := ⟨_, List.getElem?_eq_getElem hlt⟩
    (refine ctlT ?_)
    refine rgT ?_
    refine lo (lop_move (E rfl)) rfl ?_
    refine lo (lop_assign (E rfl)) rfl ?_
    refine leT ?_
    (refine ctlT ?_)
    refine rgT ?_
    refine lo (lop_move (E rfl)) rfl ?_
    refine lo (lop_move (E rfl)) rfl ?_
    refine lo (lop_move (E rfl)) rfl ?_
    refine z15 ?_
    refine z16 ?_
    refine lo (lop_eql (E rfl) (E rfl)) rfl ?_
    refine leT ?_
    (refine ctlT ?_)
    refine sw_cond rfl (fun h2 => ?_) (fun h2 => ?_)
    · have hxy : y = x := by simpa using h2
      (refine ctlT ?_)
      refine rgT ?_
      refine lo (lop_move (E rfl)) rfl ?_
      refine lo (lop_assign (E rfl)) rfl ?_
      refine leT ?_
      (refine ctlT ?_)
      (apply aend; (exact resT))
      · have : l.findIdx? (· == y) = some j := by
          rw [List.findIdx?_eq_some_iff_getElem]
          refine ⟨hlt, ?_, fun i hi => ?_⟩
          · rw [List.getElem?_eq_getElem hlt] at hx; simp at hx ⊢; rw [hx, hxy]
          · have := ht i hi
            rw [List.getElem?_eq_getElem (by omega)] at this
            simpa using this
        unfold idxN
        rw [this]
        exact ⟨rfl, rfl⟩
      · (exact stleT)
    · have hxy : y ≠ x := by simpa using h2
      (refine ctlT ?_)
      refine rgT ?_
      refine z17 ?_
      refine lo (lop_move (E rfl)) rfl ?_
      refine leT ?_
      (refine ctlT ?_)
      refine ⟨j + 1, ⟨by omega, fun i hi => ?_⟩, by omega, ?_⟩
      · by_cases hij : i = j
        · subst hij; rw [hx]; simpa using fun e => hxy e.symm
        · exact ht i (by omega)
      · (exact sgoT)
  · obtain rfl : j = l.length := by simp at h1; omega
    (refine ctlT ?_)
    refine rgT ?_
    refine lo (lop_assign (E rfl)) rfl ?_
    refine leT ?_
    (refine ctlT ?_)
    (apply aend; (exact resT))
    · have : l.findIdx? (· == y) = none := by
        rw [List.findIdx?_eq_none_iff]
        intro x hx
        obtain ⟨i, hi, rfl⟩ := List.mem_iff_getElem.1 hx
        have := ht i hi
        rw [List.getElem?_eq_getElem hi] at this
        simpa using this
      unfold idxN
      rw [this]
      exact ⟨rfl, rfl⟩
    · (exact stleT)
end Go.Proofs.Ytjpdadobblffmaa
/-
  A block's kind; the program's Get.
-/
namespace Go.Proofs.Ytjpdadobblffmaa
open Go.RowKit Go.ChangeShapes Go.WideShapes Go.ChangeAt Go.Deep
attribute [local irreducible] SW RS RD AThen ABlock
def kindI (c : Nat) : Int := idxN [64, 127, 126] c
def rdK (l : List Nat) (n : Nat) (e : Int) : Int × Nat × Int :=
  if (if decide (kindI (rdB l n e).1 < 0) = true then ((rdB l n e).2.2 == 0) else false) = true then (if kindI (rdB l n e).1 < 0 then 0 else kindI (rdB l n e).1, (rdB l n e).2.1, 1) else (if kindI (rdB l n e).1 < 0 then 0 else kindI (rdB l n e).1, (rdB l n e).2.1, (rdB l n e).2.2)
set_option maxRecDepth 100000 in
theorem rdr_kind (r : Nat) (l : List Nat) (hl : l.length ≤ 1000000) (hlt : ∀ x ∈ l, x < 256) (n : Nat) (hn : n ≤ l.length) (e : Int) : SCall Try.prog 17 [.ptr r 0] [(r, .box 52 (rv l n e))]
    (fun x σ => x = .int .i64 (rdK l n e).1 ∧ σ = [(r, .box 52 (rv l (rdK l n e).2.1 (rdK l n e).2.2))]) := by
  refine scall_of (n := 24) (ks := [0, 2, 3, 4, 18]) Try.func17 rfl rfl (Nat.le_of_ble_eq_true rfl) ?_
  unfold rv
  (refine ctlT ?_)
  refine rgT ?_
  refine lo (lop_assign (E rfl)) rfl ?_
  refine leT ?_
  (refine ctlT ?_)
  refine rgT ?_
  refine lo (lop_move (E rfl)) rfl ?_
  refine cw [(r, .box 52 (rv l n e))] Try.call16 (rdr_byte r l hl hlt n hn e) rfl ?_ ?_ ?_
  · (exact argsleT)
  · (exact stleT)
  rintro _ σ' ⟨rfl, rfl⟩ -
  (apply rs_sto; (exact nflT))
  refine lo (lop_assign (E rfl)) rfl ?_
  refine leT ?_
  (refine ctlT ?_)
  unfold rv
  refine rgT ?_
  refine z1 ?_; refine freshT fun r7 h7 => ?_; (repeat (rcases h7 with ⟨_, h7⟩))
  refine lo (lop_move (E rfl)) rfl ?_
  rw [show ([[.int .i64 64], [.int .i64 127], [.int .i64 126]] : List (List AV)) = [64, 127, 126].map encI from rfl]
  refine pu [r7] Try.call22 (lib_index_int (k := .any) [64, 127, 126] ((rdB l n e).1 : Nat)) rfl ?_ nofT ?_
  · (exact pargsT)
  refine lo (lop_assign (E rfl)) rfl ?_
  refine leT ?_
  (refine ctlT ?_)
  rw [show idxN [64, 127, 126] ((rdB l n e).1 : Nat) = kindI (rdB l n e).1 from rfl]
  refine rgT ?_
  refine lo (lop_move (E rfl)) rfl ?_
  refine lo (lop_lss (E rfl) (E rfl)) rfl ?_
  refine lo (lop_move (E rfl)) rfl ?_
  refine z4 ?_
  refine z91 ?_
  refine z92 ?_
  refine z62 ?_
  refine z6 ?_
  refine z7 ?_
  refine leT ?_
  (refine ctlT ?_)
  refine sw_cond rfl (fun g1 => ?_) (fun g1 => ?_)
  · (refine ctlT ?_)
    refine rgT ?_
    refine lo (lop_move (E rfl)) rfl ?_
    refine z76 ?_
    refine z59 ?_
    apply stp; rfl; rfl; rfl; rfl; (exact sputT)
    refine leT ?_
    (refine ctlT ?_)
    refine rgT ?_
    refine lo (lop_move (E rfl)) rfl ?_
    refine lo (lop_max (E rfl) (E rfl)) rfl ?_
    refine lo (lop_assign (E rfl)) rfl ?_
    refine leT ?_
    (refine ctlT ?_)
    (apply aend; (exact resT))
    · (unfold rdK; simp only [g1, if_true, if_false, Bool.false_eq_true]; exact ⟨rfl, rfl⟩)
    · (exact stleT)
  (refine ctlT ?_)
  refine rgT ?_
  refine lo (lop_move (E rfl)) rfl ?_
  refine lo (lop_max (E rfl) (E rfl)) rfl ?_
  refine lo (lop_assign (E rfl)) rfl ?_
  refine leT ?_
  (refine ctlT ?_)
  (apply aend; (exact resT))
  · (unfold rdK; simp only [g1, if_true, if_false, Bool.false_eq_true]; exact ⟨rfl, rfl⟩)
  · (exact stleT)
end Go.Proofs.Ytjpdadobblffmaa
