import Derived.Test.YtkjfflabapeidaaRows
import Derived.WalkKit
import Derived.WalkSpells
import Derived.WalkLawsBesides
import Derived.ProofKit
import Derived.Lib.Hide
import Derived.Maps.AppendAt
import Derived.Deep.AppendLies
import Derived.Deep.Draws
import Derived.Deep.OwnRows
import Derived.Deep.Slices
import Derived.Deep.Fields
import Derived.Deep.QuietTactic
import Derived.BigQuiet
import Derived.RegionTactic
import Derived.OwnWalk
import Derived.ChangeSame
import Derived.Lib.SmallJoins
import Derived.Deep.RegionHeld3
import Derived.Deep.RegionWith
import Derived.Deep.RegionLaw
import Derived.StillTailTactics
/-
  Plain words and lemmas that all texts of this seat use: slices that read as lists, blocks known whole, rows of a call's own, frames; no program is named here.
-/
namespace Go.Proofs.Ytkjfflabapeidaa
open Go.RowKit Go.ChangeShapes Go.WideShapes Go.ChangeAt Go.Deep
set_option linter.unusedSimpArgs false
set_option linter.unusedVariables false

theorem block_of_add (a : Addr) (n : Nat) : (a.add n).block = a.block := by unfold Addr.add; split <;> rfl
theorem add_of_add (a : Addr) (i j : Nat) : (a.add i).add j = a.add (i + j) := by
  unfold Addr.add
  by_cases hi : i = 0 <;> by_cases hj : j = 0 <;> simp [hi, hj, Nat.add_assoc]

def Reads (w : World) (B size : Nat) (A : Option Addr) (n : Nat) (xs : List Value) : Prop :=
  xs.length = n * size ∧ (0 < n → ∃ ad, A = some ad ∧ ad.block < B ∧ ∀ j u, xs[j]? = some u → w.cell? (ad.add j) = some u)

section
variable {w w' : World} {B B' size n : Nat} {A : Option Addr} {xs : List Value}
theorem Reads.none_ : Reads w B size A 0 [] := ⟨by simp, fun h => absurd h (by omega)⟩
theorem Reads.at_ {k : Nat} (h : Reads w B 1 A n xs) (hk : k < n) : ∃ ad u, A = some ad ∧ ad.block < B ∧ xs[k]? = some u ∧ w.cell? (ad.add k) = some u := by
  obtain ⟨ad, e, hb, hc⟩ := h.2 (by omega)
  have hl : k < xs.length := by have := h.1; omega
  exact ⟨ad, xs[k], e, hb, List.getElem?_eq_getElem hl, hc k _ (List.getElem?_eq_getElem hl)⟩
theorem Reads.keep (h : Reads w B size A n xs) (hk : ∀ p : Addr, p.block < B → w'.cell? p = w.cell? p) : Reads w' B size A n xs :=
  ⟨h.1, fun hn => by
    obtain ⟨ad, e, hb, hc⟩ := h.2 hn
    exact ⟨ad, e, hb, fun j u hu => (hk _ (by rw [block_of_add]; exact hb)).trans (hc j u hu)⟩⟩
theorem Reads.more (h : Reads w B size A n xs) (hB : B ≤ B') : Reads w B' size A n xs :=
  ⟨h.1, fun hn => by
    obtain ⟨ad, e, hb, hc⟩ := h.2 hn
    exact ⟨ad, e, by omega, hc⟩⟩
theorem Reads.below (h : Reads w B size A n xs) (hb : Below B w w') : Reads w' B size A n xs := h.keep fun _ hp => hb.cell hp
theorem Reads.drew (h : Reads w B size A n xs) : Reads w.drew B size A n xs := h
theorem Reads.drewN (h : Reads w B size A n xs) (k : Nat) : Reads (w.drewN k) B size A n xs := h
theorem Reads.alloc (h : Reads w B size A n xs) (hB : B ≤ w.heap.size) (o : Obj) : Reads (w.alloc o) B size A n xs := h.keep fun p hp => World.cell?_alloc_lt w o p (by omega)
theorem Reads.setCell (h : Reads w B size A n xs) {p : Addr} (hB : B ≤ p.block) (u : Value) : Reads (w.setCell p u) B size A n xs :=
  h.keep fun q hq => World.cell?_setCell_other w p q u (fun e => by subst e; omega)
theorem Reads.grown (h : Reads w B size A n xs) {row : Option Nat} (hg : w.grownBy w' row) (hB : B ≤ w.heap.size) (hr : ∀ g, row = some g → B ≤ g) : Reads w' B size A n xs :=
  h.keep fun p hp => World.cell?_of_block (hg.block p.block (by omega) (fun e => by have := hr _ e.symm; omega))
theorem Reads.cut (h : Reads w B size A n xs) {k cap : Nat} (hk : k ≤ n) (hc : n ≤ cap) :
    Reads w B size (if cap = k then A else A.map (·.add (k * size))) (n - k) (xs.drop (k * size)) := by
  refine ⟨by rw [List.length_drop, h.1, Nat.sub_mul], fun hn => ?_⟩
  obtain ⟨ad, rfl, hb, hcell⟩ := h.2 (by omega)
  rw [if_neg (by omega)]
  refine ⟨ad.add (k * size), rfl, by rw [block_of_add]; exact hb, fun j u hu => ?_⟩
  rw [add_of_add]
  exact hcell _ u (by rw [← hu, List.getElem?_drop])
theorem Reads.of_own {base : Nat} {e : TypeId} {c : Nat} (h : w.ownsRow base e size (.slice A n c) n xs) : Reads w w.heap.size size A n xs := by
  refine ⟨h.1, fun hn => ?_⟩
  obtain ⟨g, cap, hv, _, hlt⟩ := h.form hn
  have hA : A = some ⟨g, 0, none⟩ := by injection hv
  subst hA
  exact ⟨_, rfl, hlt, h.cells (g := g) rfl⟩
end

def Blk (w : World) (g : Nat) (t : TypeId) (cs : Array Value) : Prop := w.heap[g]? = some (.cells cs t (0, 0))

section
variable {w w' : World} {g : Nat} {t : TypeId} {cs : Array Value}
theorem Blk.lt (h : Blk w g t cs) : g < w.heap.size := by
  rcases Nat.lt_or_ge g w.heap.size with hlt | hge
  · exact hlt
  · unfold Blk at h; rw [Array.getElem?_eq_none hge] at h; cases h
theorem Blk.cell (h : Blk w g t cs) (i : Nat) : w.cell? ⟨g, i, none⟩ = cs[i]? := cell_of_row w g i cs t (0, 0) h
theorem Blk.frozen (h : Blk w g t cs) (i : Nat) : w.frozen? ⟨g, i, none⟩ = false := by
  unfold Blk at h
  simp [World.frozen?, h]
theorem Blk.new (w : World) (t : TypeId) (cs : Array Value) : Blk (w.alloc (.cells cs t)) w.heap.size t cs := heap_alloc_new w _
theorem Blk.drew (h : Blk w g t cs) : Blk w.drew g t cs := h
theorem Blk.drewN (h : Blk w g t cs) (n : Nat) : Blk (w.drewN n) g t cs := h
theorem Blk.alloc (h : Blk w g t cs) (o : Obj) : Blk (w.alloc o) g t cs := (Below.heap_alloc w o g h.lt).trans h
theorem Blk.set_ (h : Blk w g t cs) (i : Nat) (u : Value) : Blk (w.setCell ⟨g, i, none⟩ u) g t (cs.setIfInBounds i u) := by
  unfold Blk at h ⊢
  simp [World.setCell, Array.getElem?_modify, h]
theorem Blk.far (h : Blk w g t cs) {p : Addr} (hp : g ≠ p.block) (u : Value) : Blk (w.setCell p u) g t cs := (Below.heap_setCell w p u g hp).trans h
theorem Blk.below {B : Nat} (h : Blk w g t cs) (hb : Below B w w') (hg : g < B) : Blk w' g t cs := (hb.block g hg).trans h
theorem Blk.grown {row : Option Nat} (h : Blk w g t cs) (hb : w.grownBy w' row) (hg : some g ≠ row) : Blk w' g t cs := (hb.block g h.lt hg).trans h
theorem Blk.ne_ {g' : Nat} {t' : TypeId} {cs' : Array Value} (h : Blk w g t cs) (h' : Blk w g' t' cs') (hne : t ≠ t') : g ≠ g' := by
  rintro rfl
  unfold Blk at h h'
  rw [h] at h'
  injection h' with h'
  injection h' with _ ht
  exact hne ht
theorem own_blk_ne {base : Nat} {e : TypeId} {size n : Nat} {v : Value} {xs : List Value} (h : w.ownsRow base e size v n xs) (hg : Blk w g t cs) (hne : e ≠ t) : v.ownBlock ≠ some g := by
  rcases h.2 with ⟨rfl, _⟩ | ⟨g', cap, cur, rfl, _, hh, _⟩
  · simp [Value.ownBlock]
  · intro he
    have : g' = g := by simpa [Value.ownBlock] using he
    subst this
    exact Blk.ne_ (t := e) hh hg hne rfl
end

section
variable {P : Program} (w : World)

theorem run_append_of_nil (base : Nat) (t ty e : TypeId) (i : TypeInfo) (size : Nat) (ht : P.underlying t = some (.slice e)) (hi : P.info? e = some i)
    (v : Value) (n : Nat) (xs : List Value) (hown : w.ownsRow base e size v n xs) (c : Nat) : (Builtin.append_ #[t, t] ty #[v, .slice none 0 c]).run P w = .ok v w := by
  rcases hown.2 with ⟨rfl, rfl⟩ | ⟨g, cap, cur, rfl, _, _, hnc, _⟩
  · simp [Builtin.append_, run_underlying ht, sizeOf, typeInfo, hi, Builtin.lenOf, Builtin.firstCells]
  · simp [Builtin.append_, run_underlying ht, sizeOf, typeInfo, hi, Builtin.lenOf, Builtin.firstCells, hnc, storeCells]

theorem run_append_any (base : Nat) (t ty e : TypeId) (i : TypeInfo) (z : Value) (size bytes : Nat) (ht : P.underlying t = some (.slice e)) (hi : P.info? e = some i) (hz : i.zero = some z)
    (hsize : i.size = size) (hby : i.bytes = bytes) (hzs : z.cells.size = size) (hsz : 0 < size)
    (v : Value) (n : Nat) (xs : List Value) (hown : w.ownsRow base e size v n xs)
    (B : Nat) (A : Option Addr) (m c : Nat) (news : List Value) (hr : Reads w B size A m news) (h1 : ∀ u ∈ news, u.oneCell' = true)
    (h63 : n + m ≤ maxLen) (hbytes : (n + m) * bytes ≤ 140737488355328) (hbase : base ≤ w.heap.size) :
    ∃ v' w', (Builtin.append_ #[t, t] ty #[v, .slice A m c]).run P w = .ok v' w' ∧ w'.ownsRow base e size v' (n + m) (xs ++ news) ∧ w.grownBy w' v.ownBlock ∧
      (v'.ownBlock = v.ownBlock ∨ v'.ownBlock = some w.heap.size) := by
  rcases A with _ | ad
  · have hm : m = 0 := by
      rcases Nat.eq_zero_or_pos m with h0 | h0
      · exact h0
      · obtain ⟨ad, h, _⟩ := hr.2 h0
        cases h
    subst hm
    have hn : news = [] := List.eq_nil_of_length_eq_zero (by simpa using hr.1)
    subst hn
    exact ⟨v, w, run_append_of_nil w base t ty e i size ht hi v n xs hown c, by simpa using hown, World.grownBy.refl w _, .inl rfl⟩
  · have hcells : ∀ j u, news[j]? = some u → w.cell? (ad.add j) = some u := by
      intro j u hu
      rcases Nat.eq_zero_or_pos m with h0 | h0
      · subst h0
        have hn : news = [] := List.eq_nil_of_length_eq_zero (by simpa using hr.1)
        subst hn
        simp at hu
      · obtain ⟨ad', h, _, hc⟩ := hr.2 h0
        injection h with h
        subst h
        exact hc j u hu
    obtain ⟨v', w', hrun, h2, h3, _, h5⟩ := run_append_own_at (P := P) w base t ty e i z size bytes ht hi hz hsize hby hzs hsz v n xs hown ad m c news hr.1 hcells h1 h63 hbytes hbase
    exact ⟨v', w', hrun, h2, h3, h5⟩

theorem wp_append_any {o : Oper} {a : Act} {K : Act → World → Prop} {Q : Exit → Act → World → Prop} (s x : Operand) (t : TypeId)
    (ho : o.op = .call { callee := .builtin .append, args := #[s, x], argTypes := #[t, t] })
    (base : Nat) (e : TypeId) (i : TypeInfo) (z : Value) (size bytes : Nat) (ht : P.underlying t = some (.slice e)) (hi : P.info? e = some i) (hz : i.zero = some z)
    (hsize : i.size = size) (hby : i.bytes = bytes) (hzs : z.cells.size = size) (hsz : 0 < size)
    (v : Value) (n : Nat) (xs : List Value) (hs : a.eval s = v) (hown : w.ownsRow base e size v n xs)
    (B : Nat) (A : Option Addr) (m c : Nat) (news : List Value) (hx : a.eval x = .slice A m c) (hr : Reads w B size A m news) (h1 : ∀ u ∈ news, u.oneCell' = true)
    (h63 : n + m ≤ maxLen) (hbytes : (n + m) * bytes ≤ 140737488355328) (hbase : base ≤ w.heap.size)
    (h : ∀ v' w', w'.ownsRow base e size v' (n + m) (xs ++ news) → w.grownBy w' v.ownBlock → (v'.ownBlock = v.ownBlock ∨ v'.ownBlock = some w.heap.size) → K (a.put o.dst v') w') : o.wp P a w K Q := by
  obtain ⟨v', w', hrun, h2, h3, h4⟩ := run_append_any (P := P) w base t o.type e i z size bytes ht hi hz hsize hby hzs hsz v n xs hown B A m c news hr h1 h63 hbytes hbase
  unfold Oper.wp execOp
  simp only [ho, resolve, invoke, builtin, Sem.run_bind, Sem.run_pure, Result.andThen_ok, List.map_toArray, List.map_cons, List.map_nil, hs, hx, hrun]
  exact h v' w' h2 h3 h4

theorem wpList_append_any {ops : Array Oper} {rest : List Oper} {o : Oper} {a : Act} {Q : Exit → Act → World → Prop} (hgd : o.guard = none) (s x : Operand) (t : TypeId)
    (ho : o.op = .call { callee := .builtin .append, args := #[s, x], argTypes := #[t, t] })
    (base : Nat) (e : TypeId) (i : TypeInfo) (z : Value) (size bytes : Nat) (ht : P.underlying t = some (.slice e)) (hi : P.info? e = some i) (hz : i.zero = some z)
    (hsize : i.size = size) (hby : i.bytes = bytes) (hzs : z.cells.size = size) (hsz : 0 < size)
    (v : Value) (n : Nat) (xs : List Value) (hs : a.eval s = v) (hown : w.ownsRow base e size v n xs)
    (B : Nat) (A : Option Addr) (m c : Nat) (news : List Value) (hx : a.eval x = .slice A m c) (hr : Reads w B size A m news) (h1 : ∀ u ∈ news, u.oneCell' = true)
    (h63 : n + m ≤ maxLen) (hbytes : (n + m) * bytes ≤ 140737488355328) (hbase : base ≤ w.heap.size)
    (h : ∀ v' w', w'.ownsRow base e size v' (n + m) (xs ++ news) → w.grownBy w' v.ownBlock → (v'.ownBlock = v.ownBlock ∨ v'.ownBlock = some w.heap.size) → wpList P ops Q rest (a.put o.dst v') w') : wpList P ops Q (o :: rest) a w :=
  wpList_plain hgd fun _ hK => wp_append_any w s x t ho base e i z size bytes ht hi hz hsize hby hzs hsz v n xs hs hown B A m c news hx hr h1 h63 hbytes hbase fun v' w' h2 h3 h4 => hK _ _ (h v' w' h2 h3 h4)

theorem step_append_any {ops : Array Oper} {o : Oper} {a : Act} {K : Act → World → Prop} {Q : Exit → Act → World → Prop} {E : Prop} (hgd : o.guard = none) (s x : Operand) (t : TypeId)
    (ho : o.op = .call { callee := .builtin .append, args := #[s, x], argTypes := #[t, t] })
    (base : Nat) (e : TypeId) (i : TypeInfo) (z : Value) (size bytes : Nat) (ht : P.underlying t = some (.slice e)) (hi : P.info? e = some i) (hz : i.zero = some z)
    (hsize : i.size = size) (hby : i.bytes = bytes) (hzs : z.cells.size = size) (hsz : 0 < size)
    (v : Value) (n : Nat) (xs : List Value) (hs : a.eval s = v) (hown : w.ownsRow base e size v n xs)
    (B : Nat) (A : Option Addr) (m c : Nat) (news : List Value) (hx : a.eval x = .slice A m c) (hr : Reads w B size A m news) (h1 : ∀ u ∈ news, u.oneCell' = true)
    (h63 : n + m ≤ maxLen) (hbytes : (n + m) * bytes ≤ 140737488355328) (hbase : base ≤ w.heap.size)
    (h : ∀ v' w', w'.ownsRow base e size v' (n + m) (xs ++ news) → w.grownBy w' v.ownBlock → (v'.ownBlock = v.ownBlock ∨ v'.ownBlock = some w.heap.size) → K (a.put o.dst v') w') :
    if Region.wanted o (yielded ops a.tmps) = true then Oper.wp P o a w K Q else E := by
  have hw : Region.wanted o (yielded ops a.tmps) = true := by simp [Region.wanted, hgd]
  rw [if_pos hw]
  exact wp_append_any w s x t ho base e i z size bytes ht hi hz hsize hby hzs hsz v n xs hs hown B A m c news hx hr h1 h63 hbytes hbase h
end

theorem below_drewN {B : Nat} {a w : World} (h : Below B a w) (n : Nat) : Below B a (w.drewN n) := ⟨h.os, h.tape, h.output, h.size, h.block⟩
theorem rowIs_drewN {w : World} {b : Nat} {t : TypeId} {n : Nat} {f : Nat → Value} (h : w.rowIs b t n f) (k : Nat) : (w.drewN k).rowIs b t n f := h
theorem grown_trans {a b c : World} (h : Grown a b) (k : Grown b c) : Grown a c :=
  ⟨World.keptBut_trans h.1 k.1, fun x => (k.2.1 x).trans (h.2.1 x), Nat.le_trans h.2.2 k.2.2⟩

theorem only_drewN {a w : World} {row : Option Nat} (h : a.grownBy w row) (n : Nat) : a.grownBy (w.drewN n) row := ⟨h.os, h.tape, h.output, h.size, h.block⟩
theorem only_drew {a w : World} {row : Option Nat} (h : a.grownBy w row) : a.grownBy w.drew row := ⟨h.os, h.tape, h.output, h.size, h.block⟩
theorem only_alloc {a w : World} {row : Option Nat} (h : a.grownBy w row) (o : Obj) : a.grownBy (w.alloc o) row :=
  ⟨h.os, h.tape, h.output, Nat.le_trans h.size (by simp), fun i hi hne => (Below.heap_alloc w o i (Nat.lt_of_lt_of_le hi h.size)).trans (h.block i hi hne)⟩
theorem only_setCell {a w : World} {g : Nat} (h : a.grownBy w (some g)) {p : Addr} (hp : p.block = g ∨ a.heap.size ≤ p.block) (u : Value) : a.grownBy (w.setCell p u) (some g) :=
  ⟨h.os, h.tape, h.output, by simpa [World.setCell] using h.size, fun i hi hne => (Below.heap_setCell w p u i (by
    rintro rfl
    rcases hp with hp | hp
    · exact hne (by rw [hp])
    · omega)).trans (h.block i hi hne)⟩
theorem only_of_below {a w : World} (h : Below a.heap.size a w) (row : Option Nat) : a.grownBy w row := ⟨h.os, h.tape, h.output, h.size, fun i hi _ => h.block i hi⟩

theorem quiet_add {P : Program} {f : FuncId} {args : Array Value} {w : World} {a n : Nat} {v : Value}
    (h : Calls P f args (w.drewN (a + n)) fun e w' => e = .returned v ∧ ∃ m, w' = (w.drewN (a + n)).drewN m) :
    Calls P f args (w.drewN (a + n)) fun e w'' => e = .returned v ∧ ∃ m, w'' = w.drewN (a + m) :=
  h.mono fun _ _ ⟨he, m, hm⟩ => ⟨he, n + m, by rw [hm, World.drewN_drewN, Nat.add_assoc]⟩
theorem quiet_add_same {P : Program} {f : FuncId} {args : Array Value} {w : World} {a n : Nat} {v : Value}
    (h : Calls P f args (w.drewN (a + n)) fun e w' => e = .returned v ∧ w' = w.drewN (a + n)) :
    Calls P f args (w.drewN (a + n)) fun e w'' => e = .returned v ∧ ∃ m, w'' = w.drewN (a + m) :=
  h.mono fun _ _ ⟨he, hm⟩ => ⟨he, n, hm⟩
theorem quiet_add_left {P : Program} {f : FuncId} {args : Array Value} {w : World} {a n : Nat} {v : Value}
    (h : Calls P f args (w.drewN (a + n)) fun e w' => e = .returned v ∧ w.drewN (a + n) = w') :
    Calls P f args (w.drewN (a + n)) fun e w'' => e = .returned v ∧ ∃ m, w'' = w.drewN (a + m) :=
  h.mono fun _ _ ⟨he, hm⟩ => ⟨he, n, hm.symm⟩
theorem quiet_left {P : Program} {f : FuncId} {args : Array Value} {w : World} {n : Nat} {v : Value}
    (h : Calls P f args (w.drewN n) fun e w' => e = .returned v ∧ w.drewN n = w') : Calls P f args (w.drewN n) fun e w'' => e = .returned v ∧ ∃ m, w'' = w.drewN m :=
  h.mono fun _ _ ⟨he, hm⟩ => ⟨he, n, hm.symm⟩

theorem results_tmp4 {fn : Func} {t u v x : Tmp} (h : fn.results = #[.tmp t, .tmp u, .tmp v, .tmp x]) (tmps : Array Value) (P : Program) (w : World) :
    (results fn tmps).run P w = .ok (.tuple #[tmps.getD t undef, tmps.getD u undef, tmps.getD v undef, tmps.getD x undef]) w := by simp [results, h]
theorem results_tmp5 {fn : Func} {t u v x y : Tmp} (h : fn.results = #[.tmp t, .tmp u, .tmp v, .tmp x, .tmp y]) (tmps : Array Value) (P : Program) (w : World) :
    (results fn tmps).run P w = .ok (.tuple #[tmps.getD t undef, tmps.getD u undef, tmps.getD v undef, tmps.getD x undef, tmps.getD y undef]) w := by simp [results, h]

theorem run_make_rowN {P : Program} (t e : TypeId) (i : TypeInfo) (z : Value) (ht : P.underlying t = some (.slice e)) (hi : P.info? e = some i) (hz : i.zero = some z)
    (kl kc : IntKind) (n c : Nat) (hnc : n ≤ c) (hbytes : i.bytes * c ≤ 281474976710656) (h63 : c ≤ 9223372036854775807) (w : World) :
    (Instr.makeSlice t (.int kl (n : Int)) (.int kc (c : Int))).run P w = .ok (.slice (some ⟨w.heap.size, 0, none⟩) n c) (w.alloc (.cells (madeCells z.cells (c * i.size)) e)) := by
  have hb : (i.bytes : Int) * (c : Int) ≤ 281474976710656 := by
    have h : ((i.bytes * c : Nat) : Int) ≤ 281474976710656 := by omega
    rwa [Int.natCast_mul] at h
  have hr := run_make (P := P) w t e i z ht hi hz kl kc n c (by omega) (by omega) hb (by omega)
  simp only [Int.toNat_natCast] at hr
  exact hr
theorem run_makeMap_hint {P : Program} (t k e : TypeId) (kd : IntKind) (n : Int) (ht : P.underlying t = some (.map k e)) (w : World) :
    (Instr.makeMap t (some (.int kd n))).run P w = .ok (.map (some w.heap.size)) (w.alloc (.map #[] 0)) := by
  simp [Instr.makeMap, run_underlying ht]; rfl

section
variable {H : Type} {enc : TypeId × Value → H} {P : Program} {w : World} {base : Nat} {spare : Nat → Bool} {held : Bool}
theorem open_slice_fields {t e : TypeId} {fs : Array Field} {fuel : Nat} {cs : List Value} {x : DataW H × List MemPlace} (ht : P.underlying t = some (.slice e)) (he : P.underlying e = some (.struct fs))
    (hone : oneCellFields P fs = true) (hC : P.cellsOf e = fs.size) (h : DataW.trod enc P w base spare held fuel t cs = some x) :
    (cs = [.slice none 0 0] ∧ x = (.nil, [])) ∨
    ∃ (a : Addr) (len cap m : Nat) (D : Nat → DataW H) (Pl : Nat → List MemPlace), cs = [.slice (some a) len cap] ∧ base ≤ a.block ∧ len ≤ cap ∧ cap ≤ maxLen ∧ m = (if spare a.block then cap else len) ∧
      x = (.slice ((List.range len).map D) ((List.range (m - len)).map fun j => D (len + j)), MemPlace.row a (m * fs.size) ++ (List.range m).flatMap Pl) ∧
      ∀ i, i < m → ∃ (ys : List (DataW H × List MemPlace)) (n : Nat), D i = .agg (ys.map (·.1)) ∧ Pl i = ys.flatMap (·.2) ∧ ys.length = fs.size ∧
        ∀ (j : Nat) (f : Field), fs[j]? = some f → ∃ (v : Value) (y : DataW H × List MemPlace), w.cell? (a.add (i * fs.size + j)) = some v ∧ ys[j]? = some y ∧ DataW.trod enc P w base spare held n f.type [v] = some y := by
  rcases open_slice ht h with h0 | ⟨a, len, cap, m, n, D, Pl, hcs, hb, hl, hm, hmm, hx, hi⟩
  · exact .inl h0
  · refine .inr ⟨a, len, cap, m, D, Pl, hcs, hb, hl, hm, hmm, by rw [hC] at hx; exact hx, fun i him => ?_⟩
    obtain ⟨cs', hc, ht'⟩ := hi i him
    rw [hC] at hc
    obtain ⟨ys, n', hn', hy, hlen, hyl, hf⟩ := DataW.trod_struct he ht'
    obtain ⟨_, hcl, hat⟩ := World.cells?_some hc
    simp only [Prod.mk.injEq] at hy
    refine ⟨ys, n', hy.1, hy.2, hyl, fun j f hj => ?_⟩
    obtain ⟨ho, hk⟩ := hone_of hone j f hj
    have hjl : j < fs.size := (Array.getElem?_eq_some_iff.1 hj).1
    have hcell := hat j hjl
    have hv : cs'[j]? = some (cs'[j]'(by omega)) := List.getElem?_eq_getElem (by omega)
    have h1 := hf j f hj
    rw [ho, hk] at h1
    have hone' : (cs'.drop j).take 1 = [cs'[j]'(by omega)] := by
      rw [List.drop_eq_getElem_cons (by omega)]
      rfl
    rw [hone'] at h1
    have hys : ys[j]? = some (ys[j]'(by omega)) := List.getElem?_eq_getElem (by omega)
    refine ⟨_, _, ?_, hys, h1.trans hys⟩
    rw [← Go.Deep.add_add, hcell, hv]
end

section
variable {H : Type} {enc : TypeId × Value → H} {P : Program} {w : World} {base : Nat} {spare : Nat → Bool} {held : Bool}
theorem open_agg5 {r : Reach} {b0 : Nat} {t : TypeId} {f0 f1 f2 f3 f4 : Field} {v : Value} {d : DataW H} {p : List MemPlace} (hs : P.underlying t = some (.struct #[f0, f1, f2, f3, f4])) (hone : oneCellFields P #[f0, f1, f2, f3, f4] = true) (hC : P.cellsOf t = 5)
    (hv : Value.okWide P w r b0 t v) (h : DataW.Trod enc P w base spare held t v d p) :
    ∃ (v0 v1 v2 v3 v4 : Value) (y0 y1 y2 y3 y4 : DataW H × List MemPlace) (n : Nat), v = .agg #[v0, v1, v2, v3, v4] ∧ d = .agg [y0.1, y1.1, y2.1, y3.1, y4.1] ∧ p = y0.2 ++ (y1.2 ++ (y2.2 ++ (y3.2 ++ y4.2))) ∧
      DataW.trod enc P w base spare held n f0.type [v0] = some y0 ∧ DataW.trod enc P w base spare held n f1.type [v1] = some y1 ∧ DataW.trod enc P w base spare held n f2.type [v2] = some y2 ∧ DataW.trod enc P w base spare held n f3.type [v3] = some y3 ∧ DataW.trod enc P w base spare held n f4.type [v4] = some y4 := by
  obtain ⟨cs, rfl, hsz⟩ := okWide_struct hs hv
  obtain ⟨l⟩ := cs
  match l, hsz.trans hC with
  | [c0, c1, c2, c3, c4], _ =>
    obtain ⟨fuel, hf⟩ := h
    obtain ⟨xs, n, _, hx, _, hlen, hg⟩ := DataW.trod_struct hs hf
    obtain ⟨o0, k0⟩ := hone_of hone 0 f0 rfl
    obtain ⟨o1, k1⟩ := hone_of hone 1 f1 rfl
    obtain ⟨o2, k2⟩ := hone_of hone 2 f2 rfl
    obtain ⟨o3, k3⟩ := hone_of hone 3 f3 rfl
    obtain ⟨o4, k4⟩ := hone_of hone 4 f4 rfl
    match xs, hlen with
    | [y0, y1, y2, y3, y4], _ =>
      simp only [Prod.mk.injEq] at hx
      exact ⟨c0, c1, c2, c3, c4, y0, y1, y2, y3, y4, n, rfl, by simpa using hx.1, by simpa using hx.2, by simpa [Value.cells, o0, k0] using hg 0 f0 rfl, by simpa [Value.cells, o1, k1] using hg 1 f1 rfl, by simpa [Value.cells, o2, k2] using hg 2 f2 rfl, by simpa [Value.cells, o3, k3] using hg 3 f3 rfl, by simpa [Value.cells, o4, k4] using hg 4 f4 rfl⟩

theorem open_agg6 {r : Reach} {b0 : Nat} {t : TypeId} {f0 f1 f2 f3 f4 f5 : Field} {v : Value} {d : DataW H} {p : List MemPlace} (hs : P.underlying t = some (.struct #[f0, f1, f2, f3, f4, f5])) (hone : oneCellFields P #[f0, f1, f2, f3, f4, f5] = true) (hC : P.cellsOf t = 6)
    (hv : Value.okWide P w r b0 t v) (h : DataW.Trod enc P w base spare held t v d p) :
    ∃ (v0 v1 v2 v3 v4 v5 : Value) (y0 y1 y2 y3 y4 y5 : DataW H × List MemPlace) (n : Nat), v = .agg #[v0, v1, v2, v3, v4, v5] ∧ d = .agg [y0.1, y1.1, y2.1, y3.1, y4.1, y5.1] ∧ p = y0.2 ++ (y1.2 ++ (y2.2 ++ (y3.2 ++ (y4.2 ++ y5.2)))) ∧
      DataW.trod enc P w base spare held n f0.type [v0] = some y0 ∧ DataW.trod enc P w base spare held n f1.type [v1] = some y1 ∧ DataW.trod enc P w base spare held n f2.type [v2] = some y2 ∧ DataW.trod enc P w base spare held n f3.type [v3] = some y3 ∧ DataW.trod enc P w base spare held n f4.type [v4] = some y4 ∧ DataW.trod enc P w base spare held n f5.type [v5] = some y5 := by
  obtain ⟨cs, rfl, hsz⟩ := okWide_struct hs hv
  obtain ⟨l⟩ := cs
  match l, hsz.trans hC with
  | [c0, c1, c2, c3, c4, c5], _ =>
    obtain ⟨fuel, hf⟩ := h
    obtain ⟨xs, n, _, hx, _, hlen, hg⟩ := DataW.trod_struct hs hf
    obtain ⟨o0, k0⟩ := hone_of hone 0 f0 rfl
    obtain ⟨o1, k1⟩ := hone_of hone 1 f1 rfl
    obtain ⟨o2, k2⟩ := hone_of hone 2 f2 rfl
    obtain ⟨o3, k3⟩ := hone_of hone 3 f3 rfl
    obtain ⟨o4, k4⟩ := hone_of hone 4 f4 rfl
    obtain ⟨o5, k5⟩ := hone_of hone 5 f5 rfl
    match xs, hlen with
    | [y0, y1, y2, y3, y4, y5], _ =>
      simp only [Prod.mk.injEq] at hx
      exact ⟨c0, c1, c2, c3, c4, c5, y0, y1, y2, y3, y4, y5, n, rfl, by simpa using hx.1, by simpa using hx.2, by simpa [Value.cells, o0, k0] using hg 0 f0 rfl, by simpa [Value.cells, o1, k1] using hg 1 f1 rfl, by simpa [Value.cells, o2, k2] using hg 2 f2 rfl, by simpa [Value.cells, o3, k3] using hg 3 f3 rfl, by simpa [Value.cells, o4, k4] using hg 4 f4 rfl, by simpa [Value.cells, o5, k5] using hg 5 f5 rfl⟩
end

/-! ### the law's close: true, and every argument as it was -/
section
variable {H : Type} {enc : TypeId × Value → H} {P : Program}
theorem trodAll_below (hl : laidOutB P = true) {W W' : World} (hb : Below W.heap.size W W') :
    ∀ (ts : List TypeId) (vs : List Value) (ds : List (DataW H)) (ps : List MemPlace), (∀ t ∈ ts, P.readableRec t = true ∧ t < P.types.size) → (∀ x ∈ ps, x.block < W.heap.size) →
      DataW.TrodAll enc P W 0 (fun _ => true) true ts vs ds ps → DataW.TrodAll enc P W' 0 (fun b => decide (b < W.heap.size)) true ts vs ds ps
  | [], [], [], _, _, _, h => h
  | t :: ts, v :: vs, d :: ds, ps, hr, hlt, h => by
    obtain ⟨p, q, h1, h2, rfl⟩ := h
    exact ⟨p, q, Below.trod hl (hr t (by simp)).1 (hr t (by simp)).2 h1 hb (fun x hx => hlt x (by simp [hx])),
      trodAll_below hl hb ts vs ds q (fun t' ht' => hr t' (by simp [ht'])) (fun x hx => hlt x (by simp [hx])) h2, rfl⟩
  | [], [], _ :: _, _, _, _, h => h.elim
  | [], _ :: _, _, _, _, _, h => h.elim
  | _ :: _, [], _, _, _, _, h => h.elim
  | _ :: _, _ :: _, [], _, _, _, h => h.elim

/-- Whatever law 'true, and each argument reads as it did': its post, where the call has left all that was there as it was. -/
theorem post_law {f : Func} {s : ChangeSpec} {tb : TypeId} {fresh handsOn : Bool} {W W' : World} {args : Array Value} {ds gs : List (DataW H)} {before : List MemPlace}
    (hl : laidOutB P = true) (hrt : f.resultTypes = #[tb]) (htb : P.underlying tb = some .bool) (hvars : s.vars = [])
    (hfn : s.fn H (ds ++ gs) = { results := [.lit (.bool true)], args := ds }) (hread : ∀ t ∈ f.params.toList, P.readableRec t = true ∧ t < P.types.size)
    (hW : DataW.Whole enc P f.params.toList s.vars false W args.toList ds gs before) (hb : Below W.heap.size W W') :
    s.post enc P f false fresh handsOn false W args (.bool true) W' := by
  have hW0 := hW
  obtain ⟨p, q, hA, hV, rfl, hz, hn⟩ := hW
  have hlt : ∀ x ∈ p ++ q, x.block < W.heap.size := fun x hx => hW0.lt x hx
  rw [hvars] at hV
  obtain ⟨rfl, rfl⟩ := trodVars_none hV
  refine ⟨ds, [], p ++ [], [], p, [], hW0, ?_, ?_, ?_, World.keptBut_mono (fun x hx => ⟨hx, ?_⟩) (hb.frame (· ∈ p ++ [])), fun h => by cases h⟩
  · rw [hrt, hfn]
    exact ⟨[], [], shut_bool htb true, rfl, rfl⟩
  · rw [hfn]
    exact trodAll_below hl hb _ _ _ _ hread (fun x hx => hlt x (by simp [hx])) hA
  · rw [hvars, hfn]
    rfl
  · exact Or.inr (Or.inl (by simpa using hx))
end

/-! ### only blocks of S have turned -/
structure Only (S : Nat → Prop) (w w' : World) : Prop where
  os : w'.os = w.os
  tape : w'.tape = w.tape
  output : w'.output = w.output
  size : w.heap.size ≤ w'.heap.size
  block : ∀ k, k < w.heap.size → ¬ S k → w'.heap[k]? = w.heap[k]?
section
variable {S T : Nat → Prop} {a b c w w' : World}
theorem Only.refl (S : Nat → Prop) (w : World) : Only S w w := ⟨rfl, rfl, rfl, Nat.le_refl _, fun _ _ _ => rfl⟩
theorem Only.trans (h : Only S a b) (k : Only S b c) : Only S a c :=
  ⟨k.os.trans h.os, k.tape.trans h.tape, k.output.trans h.output, Nat.le_trans h.size k.size, fun i hi hs => (k.block i (Nat.lt_of_lt_of_le hi h.size) hs).trans (h.block i hi hs)⟩
/-- the second step may touch what is new since a -/
theorem Only.trans' (h : Only S a b) (k : Only T b c) (hT : ∀ i, i < a.heap.size → T i → S i) : Only S a c :=
  ⟨k.os.trans h.os, k.tape.trans h.tape, k.output.trans h.output, Nat.le_trans h.size k.size, fun i hi hs => (k.block i (Nat.lt_of_lt_of_le hi h.size) (fun t => hs (hT i hi t))).trans (h.block i hi hs)⟩
theorem Only.mono (h : Only S w w') (hS : ∀ i, i < w.heap.size → S i → T i) : Only T w w' := ⟨h.os, h.tape, h.output, h.size, fun i hi hs => h.block i hi (fun s => hs (hS i hi s))⟩
theorem Only.of_below (h : Below w.heap.size w w') (S : Nat → Prop) : Only S w w' := ⟨h.os, h.tape, h.output, h.size, fun i hi _ => h.block i hi⟩
theorem Only.below {B : Nat} (h : Only S w w') (hB : B ≤ w.heap.size) (hS : ∀ i, i < w.heap.size → S i → B ≤ i) : Below B w w' :=
  ⟨h.os, h.tape, h.output, h.size, fun i hi => h.block i (by omega) (fun s => by have := hS i (by omega) s; omega)⟩
theorem Only.drewN (h : Only S a w) (n : Nat) : Only S a (w.drewN n) := ⟨h.os, h.tape, h.output, h.size, h.block⟩
theorem Only.drew (h : Only S a w) : Only S a w.drew := ⟨h.os, h.tape, h.output, h.size, h.block⟩
theorem Only.alloc (h : Only S a w) (o : Obj) : Only S a (w.alloc o) :=
  h.trans ⟨rfl, rfl, rfl, by simp, fun k hk _ => Below.heap_alloc _ _ _ hk⟩
theorem Only.setCell (h : Only S a w) {p : Addr} (hp : p.block < a.heap.size → S p.block) (u : Value) : Only S a (w.setCell p u) :=
  h.trans' (T := fun i => i = p.block) ⟨rfl, rfl, rfl, by simp [World.setCell], fun k _ hne => Below.heap_setCell _ _ _ _ hne⟩ (fun i hi e => by subst e; exact hp hi)
theorem Only.grown {row : Option Nat} (h : Only S a w) (hg : w.grownBy w' row) (hr : ∀ k, row = some k → k < a.heap.size → S k) : Only S a w' :=
  h.trans' (T := fun i => some i = row) ⟨hg.os, hg.tape, hg.output, hg.size, fun k hk hne => hg.block k hk hne⟩ (fun i hi e => hr i e.symm hi)
theorem Only.cell (h : Only S w w') {p : Addr} (hp : p.block < w.heap.size) (hs : ¬ S p.block) : w'.cell? p = w.cell? p := World.cell?_of_block (w := w) (h.block p.block hp hs)
theorem Only.own {base : Nat} {e : TypeId} {size n : Nat} {v : Value} {xs : List Value} (h : Only S w w') (ho : w.ownsRow base e size v n xs) (hs : ∀ k, v.ownBlock = some k → ¬ S k) : w'.ownsRow base e size v n xs := by
  refine ⟨ho.1, ?_⟩
  rcases ho.2 with hn | ⟨g, cap, cur, rfl, hb, hg, r⟩
  · exact Or.inl hn
  · exact Or.inr ⟨g, cap, cur, rfl, hb, (h.block g (Array.getElem?_eq_some_iff.1 hg).1 (hs g rfl)).trans hg, r⟩
theorem Only.blk {g : Nat} {t : TypeId} {cs : Array Value} (h : Only S w w') (hg : Blk w g t cs) (hs : ¬ S g) : Blk w' g t cs := (h.block g hg.lt hs).trans hg
end
theorem own_ne {w : World} {base base' : Nat} {e e' : TypeId} {size size' n n' : Nat} {v v' : Value} {xs xs' : List Value} (h : w.ownsRow base e size v n xs) (h' : w.ownsRow base' e' size' v' n' xs') (hne : e ≠ e') :
    ∀ k, v.ownBlock = some k → v'.ownBlock ≠ some k := by
  intro k hk hk'
  rcases h'.2 with ⟨rfl, _⟩ | ⟨g', cap, cur, rfl, _, hh, _⟩
  · simp [Value.ownBlock] at hk'
  · have : g' = k := by simpa [Value.ownBlock] using hk'
    subst this
    exact own_blk_ne h (show Blk w g' e' cur from hh) hne hk

end Go.Proofs.Ytkjfflabapeidaa
/-
  How Go data read in memory: a class of representations, for numbers, texts, slices and structs; each is kept while the blocks that it reaches are unchanged. No program is named here.
-/
namespace Go.Proofs.Ytkjfflabapeidaa
open Go.RowKit Go.ChangeShapes Go.WideShapes Go.ChangeAt Go.Deep
set_option linter.unusedSimpArgs false
set_option linter.unusedVariables false

/-- The blocks of S hold in w' what they hold in w. -/
def Same (S : Nat → Prop) (w w' : World) : Prop := ∀ b, S b → w'.heap[b]? = w.heap[b]?

theorem Same.refl {S : Nat → Prop} (w : World) : Same S w w := fun _ _ => rfl
theorem Same.trans {S : Nat → Prop} {a b c : World} (h : Same S a b) (k : Same S b c) : Same S a c := fun i hi => (k i hi).trans (h i hi)
theorem Same.mono {S T : Nat → Prop} {a b : World} (h : Same T a b) (hs : ∀ i, S i → T i) : Same S a b := fun i hi => h i (hs i hi)
theorem Same.of_below {S : Nat → Prop} {B : Nat} {w w' : World} (h : Below B w w') (hS : ∀ b, S b → b < B) : Same S w w' := fun b hb => h.block b (hS b hb)
theorem Same.cell {S : Nat → Prop} {w w' : World} (h : Same S w w') {p : Addr} (hp : S p.block) : w'.cell? p = w.cell? p := World.cell?_of_block (h p.block hp)

/-- How a value of a Go type reads: sz cells; S: the blocks that its reading may reach. -/
class Rp (α : Type) where
  sz : Nat
  rep : World → (Nat → Prop) → List Value → α → Prop
  len : ∀ {w S cs x}, rep w S cs x → cs.length = sz
  keep : ∀ {w w' : World} {S : Nat → Prop} {cs x}, Same S w w' → rep w S cs x → rep w' S cs x
  mono : ∀ {w} {S T : Nat → Prop} {cs x}, (∀ b, S b → T b) → rep w S cs x → rep w T cs x
  one : ∀ {w S cs x}, rep w S cs x → ∀ u ∈ cs, u.oneCell' = true

/-- A slice value reads as a list. -/
structure Sl {α : Type} [Rp α] (w : World) (S : Nat → Prop) (A : Option Addr) (n cap : Nat) (xs : List α) : Prop where
  len : xs.length = n
  le : n ≤ cap
  max : cap ≤ maxLen
  nil : A = none → cap = 0
  at_ : ∀ i x, xs[i]? = some x → ∃ b off cs, A = some ⟨b, off, none⟩ ∧ S b ∧ cs.length = Rp.sz α ∧ (∀ j u, cs[j]? = some u → w.cell? ⟨b, off + i * Rp.sz α + j, none⟩ = some u) ∧ Rp.rep w S cs x

theorem Sl.keep {α : Type} [Rp α] {w w' : World} {S : Nat → Prop} {A : Option Addr} {n cap : Nat} {xs : List α} (hk : Same S w w') (h : Sl w S A n cap xs) : Sl w' S A n cap xs :=
  ⟨h.len, h.le, h.max, h.nil, fun i x hx => by
    obtain ⟨b, off, cs, hA, hb, hl, hc, hr⟩ := h.at_ i x hx
    exact ⟨b, off, cs, hA, hb, hl, fun j u hu => (hk.cell (p := ⟨b, off + i * Rp.sz α + j, none⟩) hb).trans (hc j u hu), Rp.keep hk hr⟩⟩
theorem Sl.mono {α : Type} [Rp α] {w : World} {S T : Nat → Prop} {A : Option Addr} {n cap : Nat} {xs : List α} (hs : ∀ b, S b → T b) (h : Sl w S A n cap xs) : Sl w T A n cap xs :=
  ⟨h.len, h.le, h.max, h.nil, fun i x hx => by
    obtain ⟨b, off, cs, hA, hb, hl, hc, hr⟩ := h.at_ i x hx
    exact ⟨b, off, cs, hA, hs b hb, hl, hc, Rp.mono hs hr⟩⟩
theorem Sl.nil_ {α : Type} [Rp α] (w : World) (S : Nat → Prop) : Sl w S none 0 0 ([] : List α) := ⟨rfl, Nat.le_refl _, by simp [maxLen], fun _ => rfl, fun i x hx => by simp at hx⟩

instance {α : Type} [Rp α] : Rp (List α) where
  sz := 1
  rep w S cs xs := ∃ A cap, cs = [.slice A xs.length cap] ∧ Sl w S A xs.length cap xs
  len := by rintro w S cs x ⟨A, cap, rfl, _⟩; rfl
  keep := by rintro w w' S cs x hk ⟨A, cap, rfl, h⟩; exact ⟨A, cap, rfl, h.keep hk⟩
  mono := by rintro w S T cs x hs ⟨A, cap, rfl, h⟩; exact ⟨A, cap, rfl, h.mono hs⟩
  one := by rintro w S cs x ⟨A, cap, rfl, _⟩ u hu; simp at hu; subst hu; rfl

/-- Go's int, int64: a number in its bounds. -/
instance : Rp Int where
  sz := 1
  rep _ _ cs n := cs = [.int .i64 n] ∧ -9223372036854775808 ≤ n ∧ n ≤ 9223372036854775807
  len := by rintro w S cs x ⟨rfl, _⟩; rfl
  keep := fun _ h => h
  mono := fun _ h => h
  one := by rintro w S cs x ⟨rfl, _⟩ u hu; simp at hu; subst hu; rfl

instance : Rp Bool where
  sz := 1
  rep _ _ cs b := cs = [.bool b]
  len := by rintro w S cs x rfl; rfl
  keep := fun _ h => h
  mono := fun _ h => h
  one := by rintro w S cs x rfl u hu; simp at hu; subst hu; rfl

instance : Rp UInt8 where
  sz := 1
  rep _ _ cs n := cs = [.int .u8 n.toNat]
  len := by rintro w S cs x rfl; rfl
  keep := fun _ h => h
  mono := fun _ h => h
  one := by rintro w S cs x rfl u hu; simp at hu; subst hu; rfl

instance : Rp ByteArray where
  sz := 1
  rep _ _ cs s := cs = [.string s] ∧ s.size ≤ maxLen
  len := by rintro w S cs x ⟨rfl, _⟩; rfl
  keep := fun _ h => h
  mono := fun _ h => h
  one := by rintro w S cs x ⟨rfl, _⟩ u hu; simp at hu; subst hu; rfl

/-- api.Val -/
structure Val where
  kind : Int
  n : Int
  deriving DecidableEq, Inhabited, Repr

instance : Rp Val where
  sz := 2
  rep _ _ cs v := cs = [.int .i64 v.kind, .int .i64 v.n] ∧ (-9223372036854775808 ≤ v.kind ∧ v.kind ≤ 9223372036854775807) ∧ -9223372036854775808 ≤ v.n ∧ v.n ≤ 9223372036854775807
  len := by rintro w S cs x ⟨rfl, _⟩; rfl
  keep := fun _ h => h
  mono := fun _ h => h
  one := by rintro w S cs x ⟨rfl, _⟩ u hu; simp at hu; rcases hu with rfl | rfl <;> rfl

/-! ### a row of the call's own whose elements are read -/
def Cells {α : Type} [Rp α] (w : World) (S : Nat → Prop) (css : List (List Value)) (xs : List α) : Prop :=
  css.length = xs.length ∧ ∀ (i : Nat) (cs : List Value) (x : α), css[i]? = some cs → xs[i]? = some x → Rp.rep w S cs x

section
variable {α : Type} [Rp α] {w w' : World} {S T : Nat → Prop} {css dss : List (List Value)} {xs ys : List α}
theorem Cells.nil_ : Cells w S [] ([] : List α) := ⟨rfl, fun i cs x h => by simp at h⟩
theorem Cells.len (h : Cells w S css xs) : ∀ cs ∈ css, cs.length = Rp.sz α := by
  intro cs hcs
  obtain ⟨i, hi, rfl⟩ := List.mem_iff_getElem.1 hcs
  have hx : i < xs.length := by rw [← h.1]; exact hi
  exact Rp.len (h.2 i _ xs[i] (List.getElem?_eq_getElem hi) (List.getElem?_eq_getElem hx))
theorem flat_length {n : Nat} : ∀ {css : List (List Value)}, (∀ cs ∈ css, cs.length = n) → css.flatten.length = css.length * n
  | [], _ => by simp
  | cs :: css, h => by
    rw [List.flatten_cons, List.length_append, flat_length (fun c hc => h c (by simp [hc])), h cs (by simp), List.length_cons, Nat.succ_mul]; omega
theorem flat_get {n : Nat} : ∀ {css : List (List Value)} (_ : ∀ cs ∈ css, cs.length = n) {i j : Nat} {cs : List Value} {u : Value}, css[i]? = some cs → cs[j]? = some u → css.flatten[i * n + j]? = some u
  | [], _, i, j, cs, u, h, _ => by simp at h
  | c :: css, hl, 0, j, cs, u, h, hu => by
    have hc : c = cs := by simpa using h
    subst hc
    have hj : j < c.length := (List.getElem?_eq_some_iff.1 hu).1
    rw [List.flatten_cons, Nat.zero_mul, Nat.zero_add, List.getElem?_append_left hj]
    exact hu
  | c :: css, hl, i + 1, j, cs, u, h, hu => by
    have hc := hl c (by simp)
    rw [List.flatten_cons, List.getElem?_append_right (by rw [hc, Nat.succ_mul]; omega)]
    rw [show (i + 1) * n + j - c.length = i * n + j by rw [hc, Nat.succ_mul]; omega]
    exact flat_get (fun c' hc' => hl c' (by simp [hc'])) (by simpa using h) hu
theorem Cells.flat (h : Cells w S css xs) : css.flatten.length = xs.length * Rp.sz α := by rw [flat_length h.len, h.1]
theorem Cells.get (h : Cells w S css xs) {i j : Nat} {cs : List Value} {u : Value} (hi : css[i]? = some cs) (hj : cs[j]? = some u) : css.flatten[i * Rp.sz α + j]? = some u := flat_get h.len hi hj
theorem Cells.keep (hk : Same S w w') (h : Cells w S css xs) : Cells w' S css xs := ⟨h.1, fun i cs x hi hx => Rp.keep hk (h.2 i cs x hi hx)⟩
theorem Cells.mono (hs : ∀ b, S b → T b) (h : Cells w S css xs) : Cells w T css xs := ⟨h.1, fun i cs x hi hx => Rp.mono hs (h.2 i cs x hi hx)⟩
theorem Cells.append (h : Cells w S css xs) (k : Cells w S dss ys) : Cells w S (css ++ dss) (xs ++ ys) := by
  refine ⟨by rw [List.length_append, List.length_append, h.1, k.1], fun i cs x hi hx => ?_⟩
  rcases Nat.lt_or_ge i css.length with hlt | hge
  · rw [List.getElem?_append_left hlt] at hi
    rw [List.getElem?_append_left (by rw [← h.1]; exact hlt)] at hx
    exact h.2 i cs x hi hx
  · rw [List.getElem?_append_right hge] at hi
    rw [List.getElem?_append_right (by rw [← h.1]; exact hge), ← h.1] at hx
    exact k.2 _ cs x hi hx
theorem Cells.single {cs : List Value} {x : α} (h : Rp.rep w S cs x) : Cells w S [cs] [x] := ⟨rfl, fun i cs' x' hi hx => by
  match i, hi, hx with
  | 0, hi, hx => simp at hi hx; subst hi; subst hx; exact h
  | i + 1, hi, _ => simp at hi⟩
theorem Cells.one (h : Cells w S css xs) : ∀ u ∈ css.flatten, u.oneCell' = true := by
  intro u hu
  obtain ⟨cs, hcs, hu⟩ := List.mem_flatten.1 hu
  obtain ⟨i, hi, rfl⟩ := List.mem_iff_getElem.1 hcs
  have hx : i < xs.length := by rw [← h.1]; exact hi
  exact Rp.one (h.2 i _ xs[i] (List.getElem?_eq_getElem hi) (List.getElem?_eq_getElem hx)) u hu
theorem Cells.ex (h : Cells w S css xs) {i : Nat} {x : α} (hx : xs[i]? = some x) : ∃ cs, css[i]? = some cs ∧ Rp.rep w S cs x := by
  have hi : i < css.length := by rw [h.1]; exact (List.getElem?_eq_some_iff.1 hx).1
  exact ⟨css[i], List.getElem?_eq_getElem hi, h.2 i _ x (List.getElem?_eq_getElem hi) hx⟩
end

/-- The slice value v of n elements of type e is the call's own row (blocks from B on); it reads as xs; its elements lead to blocks of S, the row's own block not among them. -/
def Own {α : Type} [Rp α] (w : World) (B : Nat) (e : TypeId) (v : Value) (S : Nat → Prop) (xs : List α) : Prop :=
  ∃ css, w.ownsRow B e (Rp.sz α) v xs.length css.flatten ∧ Cells w S css xs ∧ ∀ g, v.ownBlock = some g → ¬ S g

section
variable {α : Type} [Rp α] {w w' : World} {B B' : Nat} {e : TypeId} {v : Value} {S T : Nat → Prop} {xs ys : List α}
theorem Own.nil_ (w : World) (B : Nat) (e : TypeId) (S : Nat → Prop) : Own w B e (.slice none 0 0) S ([] : List α) := ⟨[], World.ownsRow_nil w B e _, Cells.nil_, fun g h => by simp [Value.ownBlock] at h⟩
theorem Own.slice (h : Own w B e v S xs) : ∃ A cap, v = .slice A xs.length cap ∧ xs.length ≤ cap ∧ cap ≤ maxLen := by
  obtain ⟨css, h1, _⟩ := h
  rcases h1.2 with ⟨rfl, h0⟩ | ⟨g, cap, cur, rfl, _, _, hn, hm, _⟩
  · exact ⟨none, 0, by rw [h0], by omega, by simp [maxLen]⟩
  · exact ⟨_, cap, rfl, hn, hm⟩
theorem Own.blk (h : Own w B e v S xs) : ∀ g, v.ownBlock = some g → B ≤ g ∧ g < w.heap.size := by obtain ⟨css, h1, _⟩ := h; exact h1.lt
theorem Own.base (h : Own w B e v S xs) (hB : B' ≤ B) : Own w B' e v S xs := by
  obtain ⟨css, h1, h2, h3⟩ := h
  refine ⟨css, ⟨h1.1, ?_⟩, h2, h3⟩
  rcases h1.2 with h0 | ⟨g, cap, cur, hv, hb, r⟩
  · exact .inl h0
  · exact .inr ⟨g, cap, cur, hv, by omega, r⟩
theorem Own.keep (hk : Same (fun b => S b ∨ v.ownBlock = some b) w w') (h : Own w B e v S xs) : Own w' B e v S xs := by
  obtain ⟨css, h1, h2, h3⟩ := h
  refine ⟨css, ⟨h1.1, ?_⟩, h2.keep (hk.mono fun i hi => .inl hi), h3⟩
  rcases h1.2 with h0 | ⟨g, cap, cur, rfl, hb, hg, r⟩
  · exact .inl h0
  · exact .inr ⟨g, cap, cur, rfl, hb, (hk g (.inr rfl)).trans hg, r⟩
/-- as a reading -/
theorem Own.sl (h : Own w B e v S xs) : ∃ A cap, v = .slice A xs.length cap ∧ Sl w (fun b => S b ∨ v.ownBlock = some b) A xs.length cap xs := by
  obtain ⟨css, h1, h2, h3⟩ := h
  rcases h1.2 with ⟨rfl, h0⟩ | ⟨g, cap, cur, rfl, hb, hg, hn, hm, _⟩
  · have : xs = [] := List.eq_nil_of_length_eq_zero h0
    subst this
    exact ⟨none, 0, rfl, Sl.nil_ _ _⟩
  · refine ⟨_, cap, rfl, rfl, hn, hm, (fun h => by cases h), fun i x hx => ?_⟩
    obtain ⟨cs, hi, hr⟩ := h2.ex hx
    refine ⟨g, 0, cs, rfl, .inr rfl, Rp.len hr, fun j u hu => ?_, Rp.mono (fun b hb => .inl hb) hr⟩
    have := h1.cells (g := g) rfl _ u (h2.get hi hu)
    rw [Nat.zero_add]
    simpa [Addr.add_lit] using this
theorem Own.more (hs : ∀ b, S b → T b) (hv : ∀ g, v.ownBlock = some g → ¬ T g) (h : Own w B e v S xs) : Own w B e v T xs := by
  obtain ⟨css, h1, h2, _⟩ := h
  exact ⟨css, h1, h2.mono hs, hv⟩
theorem Own.below {C : Nat} (hb : Below C w w') (hC : ∀ b, S b → b < C) (hv : ∀ g, v.ownBlock = some g → g < C) (h : Own w B e v S xs) : Own w' B e v S xs :=
  h.keep (Same.of_below hb fun b hb => by
    rcases hb with hb | hb
    · exact hC b hb
    · exact hv b hb)
end

theorem Own.sliceE {α : Type} [Rp α] {w : World} {B : Nat} {e : TypeId} {v : Value} {S : Nat → Prop} {xs : List α} (h : Own w B e v S xs) {n : Nat} (hn : xs.length = n) : ∃ A cap, v = .slice A n cap ∧ n ≤ cap ∧ cap ≤ maxLen ∧ Own w B e (.slice A n cap) S xs := by
  subst hn
  obtain ⟨A, cap, rfl, h1, h2⟩ := h.slice
  exact ⟨A, cap, rfl, h1, h2, h⟩

/-- A slice that is read, as its flat cells. -/
theorem Sl.rows {α : Type} [Rp α] {w : World} {S : Nat → Prop} {A : Option Addr} {n cap : Nat} {xs : List α} (h : Sl w S A n cap xs) (B : Nat) (hS : ∀ b, S b → b < B) :
    ∃ css, Reads w B (Rp.sz α) A n css.flatten ∧ Cells w S css xs := by
  have hex : ∀ i : Nat, ∃ cs : List Value, ∀ x, xs[i]? = some x → ∃ b off, A = some ⟨b, off, none⟩ ∧ S b ∧ cs.length = Rp.sz α ∧ (∀ j u, cs[j]? = some u → w.cell? ⟨b, off + i * Rp.sz α + j, none⟩ = some u) ∧ Rp.rep w S cs x := by
    intro i
    by_cases hi : i < xs.length
    · obtain ⟨b, off, cs, r⟩ := h.at_ i xs[i] (List.getElem?_eq_getElem hi)
      refine ⟨cs, fun x hx => ?_⟩
      rw [List.getElem?_eq_getElem hi] at hx
      obtain rfl := Option.some.inj hx
      exact ⟨b, off, r⟩
    · exact ⟨[], fun x hx => absurd (List.getElem?_eq_some_iff.1 hx).1 hi⟩
  obtain ⟨f, hf⟩ := Classical.axiomOfChoice hex
  have hcells : Cells w S ((List.range xs.length).map f) xs := by
    refine ⟨by simp, fun i cs x hi hx => ?_⟩
    have hlt : i < xs.length := (List.getElem?_eq_some_iff.1 hx).1
    rw [List.getElem?_map, List.getElem?_range hlt] at hi
    obtain rfl := Option.some.inj hi
    obtain ⟨_, _, _, _, _, _, hr⟩ := hf i x hx
    exact hr
  refine ⟨(List.range xs.length).map f, ⟨by rw [hcells.flat, h.len], fun hn => ?_⟩, hcells⟩
  have h0 : 0 < xs.length := by rw [h.len]; exact hn
  obtain ⟨b, off, hA, hb, _⟩ := hf 0 xs[0] (List.getElem?_eq_getElem h0)
  refine ⟨_, hA, hS b hb, fun k u hu => ?_⟩
  have hsz : 0 < Rp.sz α := by
    rcases Nat.eq_zero_or_pos (Rp.sz α) with hz | hz
    · have := (List.getElem?_eq_some_iff.1 hu).1
      rw [hcells.flat, hz, Nat.mul_zero] at this
      omega
    · exact hz
  have hk : k < xs.length * Rp.sz α := by have := (List.getElem?_eq_some_iff.1 hu).1; rw [hcells.flat] at this; exact this
  have hi : k / Rp.sz α < xs.length := (Nat.div_lt_iff_lt_mul hsz).2 hk
  obtain ⟨b', off', hA', _, hl, hc, _⟩ := hf (k / Rp.sz α) xs[k / Rp.sz α] (List.getElem?_eq_getElem hi)
  rw [hA] at hA'
  obtain ⟨rfl, rfl⟩ : b = b' ∧ off = off' := by simpa using hA'
  have hj : k % Rp.sz α < (f (k / Rp.sz α)).length := by rw [hl]; exact Nat.mod_lt _ hsz
  have hget := hcells.get (i := k / Rp.sz α) (j := k % Rp.sz α) (by rw [List.getElem?_map, List.getElem?_range hi]; rfl) (List.getElem?_eq_getElem hj)
  have hdm : k / Rp.sz α * Rp.sz α + k % Rp.sz α = k := by rw [Nat.mul_comm]; exact Nat.div_add_mod k _
  rw [hdm] at hget
  rw [hget] at hu
  have hu' := Option.some.inj hu
  have := hc (k % Rp.sz α) u (by rw [List.getElem?_eq_getElem hj, hu'])
  rw [Nat.add_assoc, hdm] at this
  unfold Addr.add
  split
  · next h => subst h; simpa using this
  · exact this

section
variable {α : Type} [Rp α] {P : Program} (w : World)
theorem run_append_rows {S T : Nat → Prop} {base : Nat} (t ty e : TypeId) (i : TypeInfo) (z : Value) (bytes : Nat) (ht : P.underlying t = some (.slice e)) (hi : P.info? e = some i) (hz : i.zero = some z)
    (hsize : i.size = Rp.sz α) (hby : i.bytes = bytes) (hzs : z.cells.size = Rp.sz α) (hsz : 0 < Rp.sz α)
    {v : Value} {xs : List α} (hown : Own w base e v S xs) {A : Option Addr} {m c : Nat} {dss : List (List Value)} {ys : List α} (hr : Reads w w.heap.size (Rp.sz α) A m dss.flatten) (hd : Cells w T dss ys)
    (h63 : xs.length + m ≤ maxLen) (hbytes : (xs.length + m) * bytes ≤ 140737488355328) (hbase : base ≤ w.heap.size)
    (hS : ∀ b, S b → b < w.heap.size) (hT : ∀ b, T b → b < w.heap.size ∧ v.ownBlock ≠ some b) :
    ∃ v' w', (Builtin.append_ #[t, t] ty #[v, .slice A m c]).run P w = .ok v' w' ∧ Own w' base e v' (fun b => S b ∨ T b) (xs ++ ys) ∧ w.grownBy w' v.ownBlock ∧
      (v'.ownBlock = v.ownBlock ∨ v'.ownBlock = some w.heap.size) := by
  obtain ⟨css, h1, h2, h3⟩ := hown
  have hm : m = ys.length := by
    have := hr.1; rw [hd.flat] at this; exact (Nat.eq_of_mul_eq_mul_right hsz this).symm
  subst hm
  obtain ⟨v', w', hrun, ho, hg, hb⟩ := run_append_any (P := P) w base t ty e i z (Rp.sz α) bytes ht hi hz hsize hby hzs hsz v xs.length css.flatten h1 w.heap.size A ys.length c dss.flatten hr hd.one h63 hbytes hbase
  refine ⟨v', w', hrun, ⟨css ++ dss, by rw [List.flatten_append, List.length_append]; exact ho, ?_, ?_⟩, hg, hb⟩
  · have hsame : Same (fun b => S b ∨ T b) w w' := fun b hb' => hg.block b (by
      rcases hb' with hb' | hb'
      · exact hS b hb'
      · exact (hT b hb').1) (by
      rcases hb' with hb' | hb'
      · intro e; exact h3 b e.symm hb'
      · exact fun e => (hT b hb').2 e.symm)
    exact ((h2.mono fun b hb => .inl hb).append (hd.mono fun b hb => .inr hb)).keep hsame
  · intro g hg' hst
    have hlt : g < w.heap.size := by
      rcases hst with hst | hst
      · exact hS g hst
      · exact (hT g hst).1
    rcases hb with hb | hb
    · rw [hb] at hg'
      rcases hst with hst | hst
      · exact h3 g hg' hst
      · exact (hT g hst).2 hg'
    · rw [hb] at hg'
      have : w.heap.size = g := by simpa using hg'
      omega

/-- append(s, x...) onto a row of the call's own, x a slice that is read -/
theorem wpList_append_sl {ops : Array Oper} {rest : List Oper} {o : Oper} {a : Act} {Q : Exit → Act → World → Prop} (hgd : o.guard = none) (s x : Operand) (t : TypeId)
    (ho : o.op = .call { callee := .builtin .append, args := #[s, x], argTypes := #[t, t] }) {S T : Nat → Prop} {base : Nat} (e : TypeId) (i : TypeInfo) (z : Value) (bytes : Nat) (ht : P.underlying t = some (.slice e)) (hi : P.info? e = some i) (hz : i.zero = some z)
    (hsize : i.size = Rp.sz α) (hby : i.bytes = bytes) (hzs : z.cells.size = Rp.sz α) (hsz : 0 < Rp.sz α)
    {v : Value} {xs : List α} (hs : a.eval s = v) (hown : Own w base e v S xs) {A : Option Addr} {m c : Nat} {ys : List α} (hx : a.eval x = .slice A m c) (hr : Sl w T A m c ys)
    (h63 : xs.length + m ≤ maxLen) (hbytes : (xs.length + m) * bytes ≤ 140737488355328) (hbase : base ≤ w.heap.size)
    (hS : ∀ b, S b → b < w.heap.size) (hT : ∀ b, T b → b < w.heap.size ∧ v.ownBlock ≠ some b)
    (n : Nat) (hn : xs.length + ys.length = n)
    (h : ∀ A' c' w', Own w' base e (.slice A' n c') (fun b => S b ∨ T b) (xs ++ ys) → w.grownBy w' v.ownBlock → ((Value.slice A' n c').ownBlock = v.ownBlock ∨ (Value.slice A' n c').ownBlock = some w.heap.size) → wpList P ops Q rest (a.put o.dst (.slice A' n c')) w') : wpList P ops Q (o :: rest) a w :=
  wpList_plain hgd fun _ hK => by
    obtain ⟨dss, hr1, hr2⟩ := hr.rows w.heap.size fun b hb => (hT b hb).1
    obtain ⟨v', w', hrun, h2, h3, h4⟩ := run_append_rows (P := P) (c := c) w t o.type e i z bytes ht hi hz hsize hby hzs hsz hown hr1 hr2 h63 hbytes hbase hS hT
    unfold Oper.wp execOp
    simp only [ho, resolve, invoke, builtin, Sem.run_bind, Sem.run_pure, Result.andThen_ok, List.map_toArray, List.map_cons, List.map_nil, hs, hx, hrun]
    obtain ⟨A', c', rfl, _, _, h2'⟩ := h2.sliceE (n := n) (by rw [List.length_append, hn])
    exact hK _ _ (h A' c' w' h2' h3 h4)

/-- append(s, y): the one element y lies in the block g -/
theorem wpList_append_push {ops : Array Oper} {rest : List Oper} {o : Oper} {a : Act} {Q : Exit → Act → World → Prop} (hgd : o.guard = none) (s x : Operand) (t : TypeId)
    (ho : o.op = .call { callee := .builtin .append, args := #[s, x], argTypes := #[t, t] }) {S T : Nat → Prop} {base : Nat} (e : TypeId) (i : TypeInfo) (z : Value) (bytes : Nat) (ht : P.underlying t = some (.slice e)) (hi : P.info? e = some i) (hz : i.zero = some z)
    (hsize : i.size = Rp.sz α) (hby : i.bytes = bytes) (hzs : z.cells.size = Rp.sz α) (hsz : 0 < Rp.sz α)
    {v : Value} {xs : List α} (hs : a.eval s = v) (hown : Own w base e v S xs) {g c : Nat} {y : α} {cs : List Value} (hx : a.eval x = .slice (some ⟨g, 0, none⟩) 1 c) (hg : ∀ j u, cs[j]? = some u → w.cell? ⟨g, j, none⟩ = some u) (hy : Rp.rep w T cs y)
    (h63 : xs.length + 1 ≤ maxLen) (hbytes : (xs.length + 1) * bytes ≤ 140737488355328) (hbase : base ≤ w.heap.size)
    (hS : ∀ b, S b → b < w.heap.size) (hT : ∀ b, T b → b < w.heap.size ∧ v.ownBlock ≠ some b)
    (n : Nat) (hn : xs.length + 1 = n)
    (h : ∀ A' c' w', Own w' base e (.slice A' n c') (fun b => S b ∨ T b) (xs ++ [y]) → w.grownBy w' v.ownBlock → ((Value.slice A' n c').ownBlock = v.ownBlock ∨ (Value.slice A' n c').ownBlock = some w.heap.size) → wpList P ops Q rest (a.put o.dst (.slice A' n c')) w') : wpList P ops Q (o :: rest) a w :=
  wpList_plain hgd fun _ hK => by
    have hcl := Rp.len hy
    have hr1 : Reads w w.heap.size (Rp.sz α) (some ⟨g, 0, none⟩) 1 [cs].flatten := by
      refine ⟨by simp [hcl], fun _ => ⟨_, rfl, ?_, fun j u hu => ?_⟩⟩
      · exact World.block_lt_of_cell? w ⟨g, 0, none⟩ (hg 0 (cs[0]'(by omega)) (List.getElem?_eq_getElem (by omega)))
      · rw [show (⟨g, 0, none⟩ : Addr).add j = ⟨g, j, none⟩ by simp [Addr.add_lit]]
        exact hg j u (by simpa using hu)
    obtain ⟨v', w', hrun, h2, h3, h4⟩ := run_append_rows (P := P) (c := c) w t o.type e i z bytes ht hi hz hsize hby hzs hsz hown hr1 (Cells.single hy) h63 hbytes hbase hS hT
    unfold Oper.wp execOp
    simp only [ho, resolve, invoke, builtin, Sem.run_bind, Sem.run_pure, Result.andThen_ok, List.map_toArray, List.map_cons, List.map_nil, hs, hx, hrun]
    obtain ⟨A', c', rfl, _, _, h2'⟩ := h2.sliceE (n := n) (by rw [List.length_append, ← hn]; rfl)
    exact hK _ _ (h A' c' w' h2' h3 h4)
end

/-- A type whose reading ends in its own cells. -/
class Flat (α : Type) [Rp α] : Prop where
  flat : ∀ {w w' : World} {S T : Nat → Prop} {cs : List Value} {x : α}, Rp.rep w S cs x → Rp.rep w' T cs x
instance : Flat Int := ⟨fun h => h⟩
instance : Flat Bool := ⟨fun h => h⟩
instance : Flat UInt8 := ⟨fun h => h⟩
instance : Flat ByteArray := ⟨fun h => h⟩
instance : Flat Val := ⟨fun h => h⟩
theorem Own.flat {α : Type} [Rp α] [Flat α] {w : World} {B : Nat} {e : TypeId} {v : Value} {S : Nat → Prop} {xs : List α} (h : Own w B e v S xs) : Own w B e v (fun _ => False) xs := by
  obtain ⟨css, h1, h2, _⟩ := h
  exact ⟨css, h1, ⟨h2.1, fun i cs x hi hx => Flat.flat (h2.2 i cs x hi hx)⟩, fun _ _ h => h⟩
theorem Sl.flat {α : Type} [Rp α] [Flat α] {w : World} {S : Nat → Prop} {A : Option Addr} {n cap : Nat} {xs : List α} (h : Sl w S A n cap xs) : Sl w (fun b => ∃ ad, A = some ad ∧ ad.block = b) A n cap xs :=
  ⟨h.len, h.le, h.max, h.nil, fun i x hx => by
    obtain ⟨b, off, cs, hA, hb, hl, hc, hr⟩ := h.at_ i x hx
    exact ⟨b, off, cs, hA, ⟨_, hA, rfl⟩, hl, hc, Flat.flat hr⟩⟩
/-- An owned row of flat elements, as a reading in its own block. -/
theorem Own.slF {α : Type} [Rp α] [Flat α] {w : World} {B : Nat} {e : TypeId} {v : Value} {S : Nat → Prop} {xs : List α} (h : Own w B e v S xs) : ∃ A cap, v = .slice A xs.length cap ∧ Sl w (fun b => v.ownBlock = some b) A xs.length cap xs := by
  obtain ⟨A, cap, hv, hs⟩ := h.flat.sl
  exact ⟨A, cap, hv, hs.mono fun b hb => hb.elim False.elim id⟩

theorem Own.orF {α : Type} [Rp α] {w : World} {B : Nat} {e : TypeId} {v : Value} {S : Nat → Prop} {xs : List α} (h : Own w B e v (fun b => False ∨ S b) xs) : Own w B e v S xs :=
  h.more (fun _ hb => hb.elim False.elim id) (by
    obtain ⟨_, _, _, h3⟩ := h
    exact fun g hg hs => h3 g hg (.inr hs))
theorem own_made {α : Type} [Rp α] (w : World) (e : TypeId) : Own (w.alloc (.cells #[] e)) w.heap.size e (.slice (some ⟨w.heap.size, 0, none⟩) 0 0) (fun _ => False) ([] : List α) :=
  ⟨[], World.ownsRow_made w #[] 0 (Nat.le_refl _) (Nat.zero_le _) (by simp), Cells.nil_, fun _ _ h => h⟩

section
variable {α : Type} [Rp α] {P : Program} (w : World)
/-- append(s, y) inside a region: the one element y lies in the block g -/
theorem step_append_push {ops : Array Oper} {o : Oper} {a : Act} {K : Act → World → Prop} {Q : Exit → Act → World → Prop} {E : Prop} (hgd : o.guard = none) (s x : Operand) (t : TypeId)
    (ho : o.op = .call { callee := .builtin .append, args := #[s, x], argTypes := #[t, t] }) {S T : Nat → Prop} {base : Nat} (e : TypeId) (i : TypeInfo) (z : Value) (bytes : Nat) (ht : P.underlying t = some (.slice e)) (hi : P.info? e = some i) (hz : i.zero = some z)
    (hsize : i.size = Rp.sz α) (hby : i.bytes = bytes) (hzs : z.cells.size = Rp.sz α) (hsz : 0 < Rp.sz α)
    {v : Value} {xs : List α} (hs : a.eval s = v) (hown : Own w base e v S xs) {g c : Nat} {y : α} {cs : List Value} (hx : a.eval x = .slice (some ⟨g, 0, none⟩) 1 c) (hg : ∀ j u, cs[j]? = some u → w.cell? ⟨g, j, none⟩ = some u) (hy : Rp.rep w T cs y)
    (h63 : xs.length + 1 ≤ maxLen) (hbytes : (xs.length + 1) * bytes ≤ 140737488355328) (hbase : base ≤ w.heap.size)
    (hS : ∀ b, S b → b < w.heap.size) (hT : ∀ b, T b → b < w.heap.size ∧ v.ownBlock ≠ some b)
    (n : Nat) (hn : xs.length + 1 = n)
    (h : ∀ A' c' w', Own w' base e (.slice A' n c') (fun b => S b ∨ T b) (xs ++ [y]) → w.grownBy w' v.ownBlock → ((Value.slice A' n c').ownBlock = v.ownBlock ∨ (Value.slice A' n c').ownBlock = some w.heap.size) → K (a.put o.dst (.slice A' n c')) w') :
    if Region.wanted o (yielded ops a.tmps) = true then Oper.wp P o a w K Q else E := by
  have hw : Region.wanted o (yielded ops a.tmps) = true := by simp [Region.wanted, hgd]
  rw [if_pos hw]
  have hcl := Rp.len hy
  have hr1 : Reads w w.heap.size (Rp.sz α) (some ⟨g, 0, none⟩) 1 [cs].flatten := by
    refine ⟨by simp [hcl], fun _ => ⟨_, rfl, ?_, fun j u hu => ?_⟩⟩
    · exact World.block_lt_of_cell? w ⟨g, 0, none⟩ (hg 0 (cs[0]'(by omega)) (List.getElem?_eq_getElem (by omega)))
    · rw [show (⟨g, 0, none⟩ : Addr).add j = ⟨g, j, none⟩ by simp [Addr.add_lit]]
      exact hg j u (by simpa using hu)
  obtain ⟨v', w', hrun, h2, h3, h4⟩ := run_append_rows (P := P) (c := c) w t o.type e i z bytes ht hi hz hsize hby hzs hsz hown hr1 (Cells.single hy) h63 hbytes hbase hS hT
  unfold Oper.wp execOp
  simp only [ho, resolve, invoke, builtin, Sem.run_bind, Sem.run_pure, Result.andThen_ok, List.map_toArray, List.map_cons, List.map_nil, hs, hx, hrun]
  obtain ⟨A', c', rfl, _, _, h2'⟩ := h2.sliceE (n := n) (by rw [List.length_append, ← hn]; rfl)
  exact h A' c' w' h2' h3 h4
end
theorem Same.alloc {S : Nat → Prop} (w : World) (o : Obj) (hS : ∀ b, S b → b < w.heap.size) : Same S w (w.alloc o) := fun b hb => Below.heap_alloc w o b (hS b hb)
theorem Same.below {S : Nat → Prop} {w w' : World} (h : Below w.heap.size w w') (hS : ∀ b, S b → b < w.heap.size) : Same S w w' := Same.of_below h hS
theorem Same.setCell {S : Nat → Prop} (w : World) (p : Addr) (u : Value) (hS : ¬ S p.block) : Same S w (w.setCell p u) := fun b hb => Below.heap_setCell w p u b (fun e => hS (e ▸ hb))
theorem Same.grown {S : Nat → Prop} {w w' : World} {row : Option Nat} (h : w.grownBy w' row) (hS : ∀ b, S b → b < w.heap.size ∧ row ≠ some b) : Same S w w' := fun b hb => h.block b (hS b hb).1 (fun e => (hS b hb).2 e.symm)

theorem Same.drew {S : Nat → Prop} (w : World) : Same S w w.drew := fun _ _ => rfl
theorem Same.drewN {S : Nat → Prop} (w : World) (n : Nat) : Same S w (w.drewN n) := fun _ _ => rfl
theorem Sl.drew {α : Type} [Rp α] {w : World} {S : Nat → Prop} {A : Option Addr} {n cap : Nat} {xs : List α} (h : Sl w S A n cap xs) : Sl w.drew S A n cap xs := h.keep (Same.drew w)
theorem Sl.drewN {α : Type} [Rp α] {w : World} {S : Nat → Prop} {A : Option Addr} {n cap : Nat} {xs : List α} (h : Sl w S A n cap xs) (k : Nat) : Sl (w.drewN k) S A n cap xs := h.keep (Same.drewN w k)
theorem Sl.alloc {α : Type} [Rp α] {w : World} {S : Nat → Prop} {A : Option Addr} {n cap : Nat} {xs : List α} (h : Sl w S A n cap xs) (hS : ∀ b, S b → b < w.heap.size) (o : Obj) : Sl (w.alloc o) S A n cap xs := h.keep (Same.alloc w o hS)
theorem Sl.below {α : Type} [Rp α] {w w' : World} {S : Nat → Prop} {A : Option Addr} {n cap : Nat} {xs : List α} (h : Sl w S A n cap xs) (hb : Below w.heap.size w w') (hS : ∀ b, S b → b < w.heap.size) : Sl w' S A n cap xs := h.keep (Same.below hb hS)

/-- A call of a Go function as one step of a region, by its contract. -/
theorem step_call {P : Program} {f : FuncId} (hf : ∀ args w, (callFunc f args).run P w = .ok (.enter f args) w) {ops : Array Oper} {dst : Option Tmp} {xs : List Operand} {ats : Array TypeId} {ty : TypeId} {pos : String} {after : Array Edge}
    {a : Act} {w : World} {K : Act → World → Prop} {Q : Exit → Act → World → Prop} {E : Prop} {args : List Value} (hargs : xs.map a.eval = args) {R : Ending → World → Prop} (hc : Calls P f args.toArray w R)
    (h : ∀ e w', R e w' → ∃ v, e = .returned v ∧ K (a.put dst v) w') :
    if Region.wanted { dst, op := .call { callee := .value (.func f), args := xs.toArray, argTypes := ats }, type := ty, pos, after, guard := none } (yielded ops a.tmps) = true then
      Oper.wp P { dst, op := .call { callee := .value (.func f), args := xs.toArray, argTypes := ats }, type := ty, pos, after, guard := none } a w K Q else E := by
  have hw : Region.wanted { dst, op := .call { callee := .value (.func f), args := xs.toArray, argTypes := ats }, type := ty, pos, after, guard := none } (yielded ops a.tmps) = true := by simp [Region.wanted]
  rw [if_pos hw]
  unfold Oper.wp
  rw [execOp_call_go, Array.append_empty, Array.empty_append, List.map_toArray, hargs, hf]
  show Calls P f args.toArray w _
  exact hc.mono fun e w' hr => by
    obtain ⟨v, rfl, hk⟩ := h e w' hr
    exact hk

/-! ### A region that draws its order, in one order: loads that nobody turns before they come up are taken first -/
section
variable {P : Program} {ops : Array Oper} {Q : Exit → Act → World → Prop} {md : Region.Mode} {S : World → Prop} {E : Nat → Bool}

/-- Whatever order is picked from here on; every operation but those of E leaves the condition S as true as it was. -/
def wpAnyE (P : Program) (md : Region.Mode) (ops : Array Oper) (Q : Exit → Act → World → Prop) (S : World → Prop) (E : Nat → Bool) : Nat → Array Bool → Act → World → Prop
  | 0, listed, a, w => Region.ready md ops listed = [] ∧ Q .normal a w
  | fuel + 1, listed, a, w =>
    (Region.ready md ops listed = [] → Q .normal a w) ∧
    ∀ i ∈ Region.ready md ops listed, wpOp P ops Q i (fun a' w' => (E i = true ∨ (S w → S w')) ∧ wpAnyE P md ops Q S E fuel (listed.setIfInBounds i true) a' w') a w

theorem wpAny_of_E : ∀ (fuel : Nat) (listed : Array Bool) (a : Act) (w : World), wpAnyE P md ops Q S E fuel listed a w → wpAny P md ops Q fuel listed a w
  | 0, _, _, _, h => h
  | fuel + 1, _, _, _, h => ⟨h.1, fun i hi => wpOp_mono (fun a' w' h' => wpAny_of_E fuel _ a' w' h'.2) (h.2 i hi)⟩

/-- Every operation of E waits for number i itself. -/
def waitsB (md : Region.Mode) (ops : Array Oper) (E : Nat → Bool) (i : Nat) : Bool :=
  (List.range ops.size).all fun j => !E j || j == i || ((ops[j]?).map (·.after.any fun e => Region.binds md e && e.on == i)).getD true

theorem waitsB_spec {i j : Nat} {oj : Oper} (h : waitsB md ops E i = true) (hj : ops[j]? = some oj) (hE : E j = true) (hne : j ≠ i) : ∃ e ∈ oj.after, Region.binds md e = true ∧ e.on = i := by
  have hlt : j < ops.size := (Array.getElem?_eq_some_iff.1 hj).1
  have h1 := List.all_eq_true.1 h j (List.mem_range.2 hlt)
  simp only [hE, hj, Bool.not_true, Bool.false_or, Bool.or_eq_true, beq_iff_eq, hne, false_or, Option.map_some, Option.getD_some] at h1
  rw [Array.any_eq_true'] at h1
  obtain ⟨e, he, hb⟩ := h1
  simp only [Bool.and_eq_true, beq_iff_eq] at hb
  exact ⟨e, he, hb.1, hb.2⟩

theorem wpAnyE_first {C : World → Prop} {i : Nat} {oi : Oper} {v : Value} (hi : ops[i]? = some oi) (hsel : ∀ (j : Nat) (o : Oper) cs b, ops[j]? = some o → o.op ≠ .select cs b)
    (hQ : ∀ c a w, Q (.panic c) (a.put oi.dst v) w → Q (.panic c) a w) 
    (hE : ∀ (j : Nat) (oj : Oper) (w w' : World), ops[j]? = some oj → j ≠ i → (∀ e ∈ oj.after, Region.binds md e = true → e.on ≠ i) → (E j = true ∨ (S w → S w')) → C w → C w') :
    ∀ (fuel : Nat) (listed : Array Bool) (a : Act) (w : World),
      (∀ j oj, ops[j]? = some oj → j ≠ i → listed.getD j true = false → (∀ e ∈ oj.after, Region.binds md e = true → e.on ≠ i) → oi.apart ops oj = true) →
      i ∈ Region.ready md ops listed → YieldsIf P ops C oi v a → C w →
      wpAnyE P md ops Q S E fuel (listed.setIfInBounds i true) (a.put oi.dst v) w → wpAnyE P md ops Q S E (fuel + 1) listed a w := by
  intro fuel
  induction fuel with
  | zero =>
    intro listed a w _ hr hy hS H
    refine ⟨fun h => (by rw [h] at hr; cases hr), fun j hj => ?_⟩
    by_cases hji : j = i
    · subst hji; exact hy.wpOp hi hS ⟨.inr id, H⟩
    · have := ready_mono hj hji
      rw [H.1] at this
      cases this
  | succ fuel ih =>
    intro listed a w hfree hr hy hS H
    refine ⟨fun h => (by rw [h] at hr; cases hr), fun j hj => ?_⟩
    by_cases hji : j = i
    · subst hji; exact hy.wpOp hi hS ⟨.inr id, H⟩
    · have h1 := H.2 j (ready_mono hj hji)
      obtain ⟨hjun, oj, hoj, hall⟩ := mem_ready.1 hj
      have hnot : ∀ e ∈ oj.after, Region.binds md e = true → e.on ≠ i := fun e he hb heq => by
        have h1 := hall e he hb
        have h0 := (mem_ready.1 hr).1
        rw [heq] at h1
        rcases Nat.lt_or_ge i listed.size with h' | h'
        · simp [h'] at h0 h1; rw [h0] at h1; cases h1
        · simp [Array.getElem?_eq_none h'] at h1
      have h2 := wpOp_putIf hoj (hfree j oj hoj hji hjun hnot) (fun cs b => hsel i oi cs b hi) (fun cs b => hsel j oj cs b hoj) hQ hy h1
      have hfree' : ∀ k ok, ops[k]? = some ok → k ≠ i → (listed.setIfInBounds j true).getD k true = false →
          (∀ e ∈ ok.after, Region.binds md e = true → e.on ≠ i) → oi.apart ops ok = true := fun k ok hk hki hun hno => by
        refine hfree k ok hk hki ?_ hno
        by_cases hjk : j = k
        · subst hjk; exact hjun
        · rw [getD_set_ne true hjk] at hun; exact hun
      refine wpOp_mono (fun a' w' h3 => ?_) h2
      have hSw : C w' := hE j oj w w' hoj hji hnot h3.2.1 hS
      refine ⟨h3.2.1, ih (listed.setIfInBounds j true) a' w' hfree' (ready_mono hr (Ne.symm hji)) h3.1 hSw ?_⟩
      rw [Array.setIfInBounds_comm _ _ hji]
      exact h3.2.2

/-- a load whose cell nobody turns before it -/
theorem wpAnyE_take {i : Nat} {oi : Oper} {v : Value} {fuel : Nat} {listed : Array Bool} {a : Act} {w : World} (hi : ops[i]? = some oi)
    (hs : Region.noSelect ops = true) (hf : Region.free md ops listed i = true) (hr : (Region.ready md ops listed).contains i = true) (hE : waitsB md ops E i = true)
    (hQ : ∀ c a w, Q (.panic c) (a.put oi.dst v) w → Q (.panic c) a w) (hy : YieldsIf P ops S oi v a) (hS : S w)
    (h : wpAnyE P md ops Q S E fuel (listed.setIfInBounds i true) (a.put oi.dst v) w) : wpAnyE P md ops Q S E (fuel + 1) listed a w :=
  wpAnyE_first hi (Region.noSelect_spec hs) hQ (fun j oj w w' hj hne hno hp hc => hp.elim (fun he => by
    obtain ⟨e, h1, h2, h3⟩ := waitsB_spec hE hj he hne
    exact absurd h3 (hno e h1 h2)) fun hp => hp hc) fuel listed a w (Region.free_spec hi hf) (by simpa using hr) hy hS h
/-- what yields in whatever world -/
theorem wpAnyE_pure {i : Nat} {oi : Oper} {v : Value} {fuel : Nat} {listed : Array Bool} {a : Act} {w : World} (hi : ops[i]? = some oi)
    (hs : Region.noSelect ops = true) (hf : Region.free md ops listed i = true) (hr : (Region.ready md ops listed).contains i = true)
    (hQ : ∀ c a w, Q (.panic c) (a.put oi.dst v) w → Q (.panic c) a w) (hy : YieldsIf P ops (fun _ => True) oi v a)
    (h : wpAnyE P md ops Q S E fuel (listed.setIfInBounds i true) (a.put oi.dst v) w) : wpAnyE P md ops Q S E (fuel + 1) listed a w :=
  wpAnyE_first hi (Region.noSelect_spec hs) hQ (fun _ _ _ _ _ _ _ _ h => h) fuel listed a w (Region.free_spec hi hf) (by simpa using hr) hy trivial h

/-- Number i alone can come up: it is walked as a list of one. -/
theorem wpAnyE_only {i : Nat} {oi : Oper} {fuel : Nat} {listed : Array Bool} {a : Act} {w : World} (hr : Region.ready md ops listed = [i]) (hi : ops[i]? = some oi)
    (h : wpList P ops (fun e a' w' => match e with | .normal => (E i = true ∨ (S w → S w')) ∧ wpAnyE P md ops Q S E fuel (listed.setIfInBounds i true) a' w' | e => Q e a' w') [oi] a w) :
    wpAnyE P md ops Q S E (fuel + 1) listed a w := by
  refine ⟨fun h0 => by rw [hr] at h0; simp at h0, fun j hj => ?_⟩
  rw [hr] at hj
  obtain rfl : j = i := by simpa using hj
  unfold wpOp
  simp only [hi]
  unfold wpList at h
  split
  · next hw =>
    rw [if_pos hw] at h
    rcases h with h | ⟨h1, a0, w0, h2⟩
    · refine .inl ?_
      unfold Oper.wp at h ⊢
      generalize (execOp a.eval oi).run P w = r at h ⊢
      cases r with
      | ok n w' =>
        cases n <;> simp only [Oper.upon, wpList] at h ⊢ <;> exact h
      | halt x w' => cases x <;> simp only [Oper.upon] at h ⊢ <;> exact h
    · exact .inr ⟨h1, a0, w0, h2⟩
  · next hw => rw [if_neg hw] at h; exact h

theorem wpOp_listE {i : Nat} {oi : Oper} {K : Act → World → Prop} {a : Act} {w : World} (hi : ops[i]? = some oi)
    (h : wpList P ops (fun e a' w' => match e with | .normal => K a' w' | e => Q e a' w') [oi] a w) : wpOp P ops Q i K a w := by
  unfold wpOp
  simp only [hi]
  unfold wpList at h
  split
  · next hw =>
    rw [if_pos hw] at h
    rcases h with h | ⟨h1, a0, w0, h2⟩
    · refine .inl ?_
      unfold Oper.wp at h ⊢
      generalize (execOp a.eval oi).run P w = r at h ⊢
      cases r with
      | ok n w' =>
        cases n <;> simp only [Oper.upon, wpList] at h ⊢ <;> exact h
      | halt x w' => cases x <;> simp only [Oper.upon] at h ⊢ <;> exact h
    · exact .inr ⟨h1, a0, w0, h2⟩
  · next hw => rw [if_neg hw] at h; exact h
/-- two are ready: both roads -/
theorem wpAnyE_two {i j : Nat} {oi oj : Oper} {fuel : Nat} {listed : Array Bool} {a : Act} {w : World} (hr : Region.ready md ops listed = [i, j]) (hi : ops[i]? = some oi) (hj : ops[j]? = some oj)
    (h : wpList P ops (fun e a' w' => match e with | .normal => (E i = true ∨ (S w → S w')) ∧ wpAnyE P md ops Q S E fuel (listed.setIfInBounds i true) a' w' | e => Q e a' w') [oi] a w)
    (h' : wpList P ops (fun e a' w' => match e with | .normal => (E j = true ∨ (S w → S w')) ∧ wpAnyE P md ops Q S E fuel (listed.setIfInBounds j true) a' w' | e => Q e a' w') [oj] a w) :
    wpAnyE P md ops Q S E (fuel + 1) listed a w := by
  refine ⟨fun h0 => by rw [hr] at h0; simp at h0, fun k hk => ?_⟩
  rw [hr] at hk
  simp only [List.mem_cons, List.not_mem_nil, or_false] at hk
  rcases hk with rfl | rfl
  · exact wpOp_listE hi h
  · exact wpOp_listE hj h'

theorem wpAnyE_done {listed : Array Bool} {a : Act} {w : World} (hr : Region.ready md ops listed = []) (h : Q .normal a w) : ∀ fuel, wpAnyE P md ops Q S E fuel listed a w
  | 0 => ⟨hr, h⟩
  | _ + 1 => ⟨fun _ => h, by rw [hr]; simp⟩

theorem wp_region_E (S : World → Prop) (E : Nat → Bool) {id : Nat} {a : Act} {w : World} (hm : P.follows .mixedOrders = true)
    (h : wpAnyE P .any ops Q S E ops.size (Array.replicate ops.size false) a w.drew) : (Code.region id ops true).wp P Q a w :=
  wp_region_any hm (wpAny_of_E _ _ _ _ h)
end

theorem cells_new (w : World) (cs : List Value) (e : TypeId) : ∀ (j : Nat) (u : Value), cs[j]? = some u → (w.alloc (.cells cs.toArray e)).cell? ⟨w.heap.size, j, none⟩ = some u := by
  intro j u hu
  rw [(Blk.new w e cs.toArray).cell]
  simpa using hu
theorem Blk.drew_ {w : World} {g : Nat} {t : TypeId} {cs : Array Value} (h : Blk w g t cs) : Blk w.drew g t cs := h

/-! ### an own row whose elements lead each to blocks of their own; one cell of it set -/
def OwnI {α : Type} [Rp α] (w : World) (B : Nat) (e : TypeId) (v : Value) (S : Nat → Nat → Prop) (xs : List α) : Prop :=
  ∃ css : List (List Value), w.ownsRow B e (Rp.sz α) v xs.length css.flatten ∧ css.length = xs.length ∧ (∀ (i : Nat) (cs : List Value) (x : α), css[i]? = some cs → xs[i]? = some x → Rp.rep w (S i) cs x) ∧
    ∀ g, v.ownBlock = some g → ∀ i, ¬ S i g

theorem flat_set {n : Nat} : ∀ {css : List (List Value)} (_ : ∀ cs ∈ css, cs.length = n) {i j : Nat} {cs : List Value} (u : Value), css[i]? = some cs → j < n → (css.set i (cs.set j u)).flatten = css.flatten.set (i * n + j) u
  | [], _, i, j, cs, u, h, _ => by simp at h
  | c :: css, hl, 0, j, cs, u, h, hj => by
    have hc : c = cs := by simpa using h
    subst hc
    have := hl c (by simp)
    rw [List.set_cons_zero, List.flatten_cons, List.flatten_cons, Nat.zero_mul, Nat.zero_add, List.set_append_left _ _ (by omega)]
  | c :: css, hl, i + 1, j, cs, u, h, hj => by
    have hc := hl c (by simp)
    rw [List.set_cons_succ, List.flatten_cons, List.flatten_cons, List.set_append_right _ _ (by rw [hc, Nat.succ_mul]; omega),
      flat_set (fun c' hc' => hl c' (by simp [hc'])) u (by simpa using h) hj, hc, show (i + 1) * n + j - n = i * n + j by rw [Nat.succ_mul]; omega]

section
variable {α : Type} [Rp α] {w w' : World} {B : Nat} {e : TypeId} {v : Value} {S T : Nat → Nat → Prop} {xs : List α}
theorem Own.each {S : Nat → Prop} (h : Own w B e v S xs) : OwnI w B e v (fun _ => S) xs := by
  obtain ⟨css, h1, h2, h3⟩ := h
  exact ⟨css, h1, h2.1, h2.2, fun g hg _ => h3 g hg⟩
theorem OwnI.all {S' : Nat → Prop} (h : OwnI w B e v S xs) (hs : ∀ i, i < xs.length → ∀ b, S i b → S' b) (hv : ∀ g, v.ownBlock = some g → ¬ S' g) : Own w B e v S' xs := by
  obtain ⟨css, h1, h2, h3, h4⟩ := h
  exact ⟨css, h1, ⟨h2, fun i cs x hi hx => Rp.mono (hs i (List.getElem?_eq_some_iff.1 hx).1) (h3 i cs x hi hx)⟩, hv⟩
theorem OwnI.mono (h : OwnI w B e v S xs) (hs : ∀ i, i < xs.length → ∀ b, S i b → T i b) (hv : ∀ g, v.ownBlock = some g → ∀ i, ¬ T i g) : OwnI w B e v T xs := by
  obtain ⟨css, h1, h2, h3, h4⟩ := h
  exact ⟨css, h1, h2, fun i cs x hi hx => Rp.mono (hs i (List.getElem?_eq_some_iff.1 hx).1) (h3 i cs x hi hx), hv⟩
theorem OwnI.keep (hk : Same (fun b => (∃ i, i < xs.length ∧ S i b) ∨ v.ownBlock = some b) w w') (h : OwnI w B e v S xs) : OwnI w' B e v S xs := by
  obtain ⟨css, h1, h2, h3, h4⟩ := h
  refine ⟨css, ⟨h1.1, ?_⟩, h2, fun i cs x hi hx => Rp.keep (hk.mono fun b hb => .inl ⟨i, (List.getElem?_eq_some_iff.1 hx).1, hb⟩) (h3 i cs x hi hx), h4⟩
  rcases h1.2 with h0 | ⟨g, cap, cur, rfl, hb, hg, r⟩
  · exact .inl h0
  · exact .inr ⟨g, cap, cur, rfl, hb, (hk g (.inr rfl)).trans hg, r⟩
theorem OwnI.blk (h : OwnI w B e v S xs) : ∀ g, v.ownBlock = some g → B ≤ g ∧ g < w.heap.size := by obtain ⟨css, h1, _⟩ := h; exact h1.lt
/-- element i, its cells at its place -/
theorem OwnI.at_ (h : OwnI w B e v S xs) {i : Nat} {x : α} (hi : xs[i]? = some x) : ∃ g cap cs, v = .slice (some ⟨g, 0, none⟩) xs.length cap ∧ cs.length = Rp.sz α ∧ (∀ j u, cs[j]? = some u → w.cell? ⟨g, i * Rp.sz α + j, none⟩ = some u) ∧
    (∀ j, w.frozen? ⟨g, j, none⟩ = false) ∧ Rp.rep w (S i) cs x := by
  obtain ⟨css, h1, h2, h3, h4⟩ := h
  have hlt : i < xs.length := (List.getElem?_eq_some_iff.1 hi).1
  have hcs : css[i]? = some (css[i]'(by omega)) := List.getElem?_eq_getElem _
  have hr := h3 i _ x hcs hi
  have hlen : ∀ cs ∈ css, cs.length = Rp.sz α := by
    intro cs hcs
    obtain ⟨k, hk, rfl⟩ := List.mem_iff_getElem.1 hcs
    exact Rp.len (h3 k _ xs[k] (List.getElem?_eq_getElem hk) (List.getElem?_eq_getElem (by omega)))
  rcases h1.2 with ⟨_, h0⟩ | ⟨g, cap, cur, hv, hb, hg, r⟩
  · omega
  · refine ⟨g, cap, _, hv, Rp.len hr, fun j u hu => ?_, fun j => by simp [World.frozen?, hg], hr⟩
    subst hv
    have := h1.cells (g := g) rfl _ u (flat_get hlen hcs hu)
    simpa [Addr.add_lit] using this
/-- one cell of element i set -/
theorem OwnI.set_ (h : OwnI w B e v S xs) {g : Nat} (hv : v.ownBlock = some g) {i j : Nat} {x x' : α} {u : Value} {T' : Nat → Prop} (hi : xs[i]? = some x) (hj : j < Rp.sz α)
    (hrep : ∀ cs, Rp.rep w (S i) cs x → Rp.rep (w.setCell ⟨g, i * Rp.sz α + j, none⟩ u) T' (cs.set j u) x') (hT : ¬ T' g) :
    OwnI (w.setCell ⟨g, i * Rp.sz α + j, none⟩ u) B e v (fun k => if k = i then T' else S k) (xs.set i x') := by
  obtain ⟨css, h1, h2, h3, h4⟩ := h
  have hlt : i < xs.length := (List.getElem?_eq_some_iff.1 hi).1
  have hcs : css[i]? = some (css[i]'(by omega)) := List.getElem?_eq_getElem _
  have hlen : ∀ cs ∈ css, cs.length = Rp.sz α := by
    intro cs hcs
    obtain ⟨k, hk, rfl⟩ := List.mem_iff_getElem.1 hcs
    exact Rp.len (h3 k _ xs[k] (List.getElem?_eq_getElem hk) (List.getElem?_eq_getElem (by omega)))
  have hfl := flat_set hlen u hcs hj
  refine ⟨css.set i ((css[i]'(by omega)).set j u), ⟨?_, ?_⟩, by simp [h2], ?_, ?_⟩
  · rw [hfl, List.length_set, List.length_set]; exact h1.1
  · rcases h1.2 with ⟨rfl, h0⟩ | ⟨g', cap, cur, rfl, hb, hg, hn, hm, hc, ht⟩
    · simp [Value.ownBlock] at hv
    · obtain rfl : g' = g := by simpa [Value.ownBlock] using hv
      refine .inr ⟨g', cap, cur.setIfInBounds (i * Rp.sz α + j) u, by rw [List.length_set], hb, ?_, by rw [List.length_set]; exact hn, hm, by simpa using hc, ?_⟩
      · simp [World.setCell, Array.getElem?_modify, hg]
      · rw [hfl, List.length_set, ← ht]
        rw [Array.toList_setIfInBounds, List.take_set]
  · intro k cs y hk hy
    by_cases hki : k = i
    · subst hki
      dsimp only
      rw [if_pos rfl]
      rw [List.getElem?_set_self (by omega)] at hk hy
      obtain rfl := Option.some.inj hk
      obtain rfl := Option.some.inj hy
      exact hrep _ (h3 k _ x hcs hi)
    · dsimp only
      rw [if_neg hki]
      rw [List.getElem?_set_ne (Ne.symm hki)] at hk hy
      exact Rp.keep (Same.setCell _ _ _ (by exact h4 g hv k)) (h3 k cs y hk hy)
  · intro g' hg' k
    have : g' = g := by rw [hv] at hg'; exact (Option.some.inj hg').symm
    subst this
    by_cases hki : k = i
    · dsimp only; rw [if_pos hki]; exact hT
    · dsimp only; rw [if_neg hki]; exact h4 g' hv k
end
theorem List.set_getElem?_self {α : Type} {l : List α} {i : Nat} {x : α} (h : l[i]? = some x) : l.set i x = l := by
  apply List.ext_getElem?
  intro k
  by_cases hk : i = k
  · subst hk; rw [List.getElem?_set_self (List.getElem?_eq_some_iff.1 h).1, h]
  · rw [List.getElem?_set_ne hk]

/-- A slice literal: the new block reads as its elements. -/
theorem Sl.new {α : Type} [Rp α] {w : World} {S : Nat → Prop} {css : List (List Value)} {xs : List α} (e : TypeId) (hc : Cells w S css xs) (hS : ∀ b, S b → b < w.heap.size) (hm : xs.length ≤ maxLen) :
    Sl (w.alloc (.cells css.flatten.toArray e)) (fun b => S b ∨ b = w.heap.size) (some ⟨w.heap.size, 0, none⟩) xs.length xs.length xs :=
  ⟨rfl, Nat.le_refl _, hm, (fun h => by cases h), fun i x hx => by
    obtain ⟨cs, hi, hr⟩ := hc.ex hx
    refine ⟨_, 0, cs, rfl, .inr rfl, Rp.len hr, fun j u hu => ?_, Rp.mono (fun _ hb => .inl hb) (Rp.keep (Same.alloc w _ hS) hr)⟩
    rw [Nat.zero_add]
    exact cells_new w _ e _ u (hc.get hi hu)⟩
theorem Sl.newF {α : Type} [Rp α] [Flat α] (w : World) {css : List (List Value)} {xs : List α} (e : TypeId) (hc : Cells w (fun _ => False) css xs) (hm : xs.length ≤ maxLen) {b : Nat} (hb : w.heap.size = b) :
    Sl (w.alloc (.cells css.flatten.toArray e)) (fun x => x = b) (some ⟨b, 0, none⟩) xs.length xs.length xs := by
  subst hb
  exact (Sl.new e hc (fun _ h => h.elim) hm).mono fun _ hb => hb.elim False.elim id

theorem Sl.empty {α : Type} [Rp α] (w : World) (S : Nat → Prop) (A : Option Addr) : Sl w S A 0 0 ([] : List α) := ⟨rfl, Nat.le_refl _, by simp [maxLen], fun _ => rfl, fun i x hx => by simp at hx⟩

theorem Only.same {S T : Nat → Prop} {w w' : World} (h : Only S w w') (hT : ∀ b, T b → b < w.heap.size ∧ ¬ S b) : Same T w w' := fun b hb => h.block b (hT b hb).1 (hT b hb).2

/-- Block b holds cells, none of them frozen. -/
def Plain (w : World) (b : Nat) : Prop := ∃ cs e, w.heap[b]? = some (.cells cs e (0, 0))
theorem Plain.frozen {w : World} {b : Nat} (h : Plain w b) (i : Nat) : w.frozen? ⟨b, i, none⟩ = false := by
  obtain ⟨cs, e, h⟩ := h
  exact Blk.frozen (t := e) (cs := cs) h i
theorem Plain.same {w w' : World} {b : Nat} (h : Plain w b) (hs : w'.heap[b]? = w.heap[b]?) : Plain w' b := by
  obtain ⟨cs, e, h⟩ := h
  exact ⟨cs, e, hs.trans h⟩
theorem Plain.set_ {w : World} {b : Nat} (h : Plain w b) (c o : Nat) (u : Value) : Plain (w.setCell ⟨c, o, none⟩ u) b := by
  obtain ⟨cs, e, h⟩ := h
  by_cases hp : b = c
  · subst hp
    exact ⟨_, e, Blk.set_ (t := e) (cs := cs) h o u⟩
  · exact ⟨cs, e, (Below.heap_setCell w ⟨c, o, none⟩ u b hp).trans h⟩
theorem Own.plain {α : Type} [Rp α] {w : World} {B : Nat} {e : TypeId} {v : Value} {S : Nat → Prop} {xs : List α} (h : Own w B e v S xs) {b : Nat} (hb : v.ownBlock = some b) : Plain w b := by
  obtain ⟨css, h1, _⟩ := h
  rcases h1.2 with ⟨rfl, _⟩ | ⟨g, cap, cur, rfl, _, hg, _⟩
  · simp [Value.ownBlock] at hb
  · obtain rfl : g = b := by simpa [Value.ownBlock] using hb
    exact ⟨cur, e, hg⟩

section
variable {P : Program} {ops : Array Oper} {Q : Exit → Act → World → Prop} {md : Region.Mode} {S : World → Prop} {E : Nat → Bool}
/-- as wpAnyE_pure, the new frame written out -/
theorem wpAnyE_pureN {i : Nat} {oi : Oper} {v : Value} {fuel : Nat} {listed : Array Bool} {a a' : Act} {w : World} (hi : ops[i]? = some oi)
    (hs : Region.noSelect ops = true) (hf : Region.free md ops listed i = true) (hr : (Region.ready md ops listed).contains i = true)
    (hQ : ∀ c a w, Q (.panic c) (a.put oi.dst v) w → Q (.panic c) a w) (hw : Region.wanted oi (yielded ops a.tmps) = true) (hv : ∀ w, (execOp a.eval oi).run P w = .ok (.value v) w) (ha : a.put oi.dst v = a')
    (h : wpAnyE P md ops Q S E fuel (listed.setIfInBounds i true) a' w) : wpAnyE P md ops Q S E (fuel + 1) listed a w :=
  wpAnyE_pure hi hs hf hr hQ (.inl ⟨hw, fun w _ => hv w⟩) (ha ▸ h)
theorem wpAnyE_takeN {i : Nat} {oi : Oper} {v : Value} {fuel : Nat} {listed : Array Bool} {a a' : Act} {w : World} (hi : ops[i]? = some oi)
    (hs : Region.noSelect ops = true) (hf : Region.free md ops listed i = true) (hr : (Region.ready md ops listed).contains i = true) (hE : waitsB md ops E i = true)
    (hQ : ∀ c a w, Q (.panic c) (a.put oi.dst v) w → Q (.panic c) a w) (hw : Region.wanted oi (yielded ops a.tmps) = true) (hv : ∀ w, S w → (execOp a.eval oi).run P w = .ok (.value v) w) (hS : S w) (ha : a.put oi.dst v = a')
    (h : wpAnyE P md ops Q S E fuel (listed.setIfInBounds i true) a' w) : wpAnyE P md ops Q S E (fuel + 1) listed a w :=
  wpAnyE_take hi hs hf hr hE hQ (.inl ⟨hw, hv⟩) hS (ha ▸ h)
/-- a guarded operation that is not wanted -/
theorem wpAnyE_skipN {i : Nat} {oi : Oper} {fuel : Nat} {listed : Array Bool} {a a' : Act} {w : World} (hi : ops[i]? = some oi)
    (hs : Region.noSelect ops = true) (hf : Region.free md ops listed i = true) (hr : (Region.ready md ops listed).contains i = true)
    (hQ : ∀ c a w, Q (.panic c) (a.put oi.dst undef) w → Q (.panic c) a w) (hw : Region.wanted oi (yielded ops a.tmps) = false) (ha : a.put oi.dst undef = a')
    (h : wpAnyE P md ops Q S E fuel (listed.setIfInBounds i true) a' w) : wpAnyE P md ops Q S E (fuel + 1) listed a w :=
  wpAnyE_pure hi hs hf hr hQ (.inr ⟨hw, rfl⟩) (ha ▸ h)
end

end Go.Proofs.Ytkjfflabapeidaa
/-
  A symbolic layer: abstract values and stores, and how they stand to a world. A slice that nobody writes is a value of its own; boxes and rows of the call's own lie in an abstract store by names. No program is named here.
-/
namespace Go.Proofs.Ytkjfflabapeidaa
open Go.RowKit Go.ChangeShapes Go.WideShapes Go.ChangeAt Go.Deep
set_option linter.unusedSimpArgs false
set_option linter.unusedVariables false

/-- what is known of a slice that is only read: it is nil; its capacity is its length; nothing -/
inductive Rk where
  | nil | full | any
  deriving DecidableEq, Repr, Inhabited

inductive AV where
  | undef
  | int (k : IntKind) (n : Int)
  | bool (b : Bool)
  | str (s : ByteArray)
  | nilp
  | ptr (r off : Nat)
  | el (sz : Nat) (es : List (List AV)) (i off : Nat)
  | ow (t i off : Nat)
  | ro (sz : Nat) (es : List (List AV)) (k : Rk)
  | own (t off len : Nat)
  | agg (cs : List AV)
  | tup (cs : List AV)
  | fn (f : Fn) (first captured : List AV)
  | when (c : Bool) (x : AV)
  | val (v : Value)
  deriving Inhabited

def AV.cell : AV → Bool
  | .int .. | .bool _ | .str _ | .nilp | .ptr .. | .el .. | .ow .. | .ro .. | .own .. | .fn .. => true
  | _ => false

inductive Blk' where
  | row (g c sz : Nat)
  | virt

abbrev Mp := Nat → Option Blk'
def blkOf (M : Mp) (r : Nat) : Option Nat := match M r with | some (.row g _ _) => some g | _ => none

/-- rows of sz cells each -/
def RowsOk (sz : Nat) (es : List (List AV)) : Prop := ∀ x ∈ es, x.length = sz ∧ ∀ a ∈ x, a.cell = true

inductive VR (M : Mp) (F : Nat → Prop) (w : World) : AV → Value → Prop
  | undef (v : Value) : VR M F w .undef v
  | int (k : IntKind) (n : Int) : VR M F w (.int k n) (.int k n)
  | bool (b : Bool) : VR M F w (.bool b) (.bool b)
  | str (s : ByteArray) : VR M F w (.str s) (.string s)
  | nilp : VR M F w .nilp (.pointer none)
  | ptr {r off g c sz : Nat} (h : M r = some (.row g c sz)) : VR M F w (.ptr r off) (.pointer (some ⟨g, off, none⟩))
  | ow {t i off g c sz : Nat} (h : M t = some (.row g c sz)) : VR M F w (.ow t i off) (.pointer (some ⟨g, i * sz + off, none⟩))
  | el {es : List (List AV)} {i off b o sz : Nat} {us : Nat → Nat → Value} (hb : F b) (hs : RowsOk sz es)
      (hc : ∀ (i : Nat) (e : List AV) (j : Nat) (a : AV), es[i]? = some e → e[j]? = some a → w.cell? ⟨b, o + i * sz + j, none⟩ = some (us i j)) (hr : ∀ (i : Nat) (e : List AV) (j : Nat) (a : AV), es[i]? = some e → e[j]? = some a → VR M F w a (us i j)) :
      VR M F w (.el sz es i off) (.pointer (some ⟨b, o + i * sz + off, none⟩))
  | ro {es : List (List AV)} {k : Rk} {b o sz cap : Nat} {us : Nat → Nat → Value} (hb : F b) (hs : RowsOk sz es)
      (hc : ∀ (i : Nat) (e : List AV) (j : Nat) (a : AV), es[i]? = some e → e[j]? = some a → w.cell? ⟨b, o + i * sz + j, none⟩ = some (us i j)) (hr : ∀ (i : Nat) (e : List AV) (j : Nat) (a : AV), es[i]? = some e → e[j]? = some a → VR M F w a (us i j))
      (hle : es.length ≤ cap) (hm : cap ≤ maxLen) (hf : k = .full → cap = es.length) (hn : k ≠ .nil) : VR M F w (.ro sz es k) (.slice (some ⟨b, o, none⟩) es.length cap)
  | ro0 {sz : Nat} {k : Rk} {A : Option Addr} {cap : Nat} (hm : cap ≤ maxLen) (hA : A = none → cap = 0) (hf : k = .full → cap = 0) (hn : k = .nil → A = none) : VR M F w (.ro sz [] k) (.slice A 0 cap)
  | own {t off len g c sz : Nat} (h : M t = some (.row g c sz)) (hle : off + len ≤ c) (hm : c ≤ maxLen) : VR M F w (.own t off len) (.slice (some ⟨g, off * sz, none⟩) len (c - off))
  | own0 {t off : Nat} {A : Option Addr} : VR M F w (.own t off 0) (.slice A 0 0)
  | agg {cs : List AV} {vs : Array Value} (hl : vs.size = cs.length) (h : ∀ (j : Nat) (a : AV) (u : Value), cs[j]? = some a → vs[j]? = some u → VR M F w a u) : VR M F w (.agg cs) (.agg vs)
  | tup {cs : List AV} {vs : Array Value} (hl : vs.size = cs.length) (h : ∀ (j : Nat) (a : AV) (u : Value), cs[j]? = some a → vs[j]? = some u → VR M F w a u) : VR M F w (.tup cs) (.tuple vs)
  | fn {f : Fn} {xs cs : List AV} {us vs : Array Value} (h1 : us.size = xs.length) (h2 : ∀ (j : Nat) (a : AV) (u : Value), xs[j]? = some a → us[j]? = some u → VR M F w a u)
      (h3 : vs.size = cs.length) (h4 : ∀ (j : Nat) (a : AV) (u : Value), cs[j]? = some a → vs[j]? = some u → VR M F w a u) : VR M F w (.fn f xs cs) (.func f us vs)
  | when {c : Bool} {x : AV} {v : Value} (h : c = true → VR M F w x v) (h0 : c = false → v = Go.undef) : VR M F w (.when c x) v
  | val (v : Value) : VR M F w (.val v) v

theorem VR.cell_one {M : Mp} {F : Nat → Prop} {w : World} {a : AV} {v : Value} (h : VR M F w a v) (hc : a.cell = true) : v.oneCell' = true := by
  cases h <;> first | rfl | (simp [AV.cell] at hc)

theorem VR.mono {M M' : Mp} {F F' : Nat → Prop} {w w' : World} (hM : ∀ r b, M r = some b → M' r = some b) (hF : ∀ b, F b → F' b) (hS : Same F w w') {a : AV} {v : Value} (h : VR M F w a v) : VR M' F' w' a v := by
  induction h with
  | undef v => exact .undef v
  | int k n => exact .int k n
  | bool b => exact .bool b
  | str s => exact .str s
  | nilp => exact .nilp
  | ptr h => exact .ptr (hM _ _ h)
  | ow h => exact .ow (hM _ _ h)
  | el hb hs hc _ ih => exact .el (hF _ hb) hs (fun i e j a hi hj => (hS.cell (p := ⟨_, _, none⟩) hb).trans (hc i e j a hi hj)) ih
  | ro hb hs hc _ hle hm hf hn ih => exact .ro (hF _ hb) hs (fun i e j a hi hj => (hS.cell (p := ⟨_, _, none⟩) hb).trans (hc i e j a hi hj)) ih hle hm hf hn
  | ro0 hm hA hf hn => exact .ro0 hm hA hf hn
  | own h hle hm => exact .own (hM _ _ h) hle hm
  | own0 => exact .own0
  | agg hl _ ih => exact .agg hl ih
  | tup hl _ ih => exact .tup hl ih
  | fn h1 _ h3 _ ih1 ih2 => exact .fn h1 ih1 h3 ih2
  | when _ h0 ih => exact .when ih h0
  | val v => exact .val v

/-- block g holds the cells vs of element type ty, none of them frozen -/
def Cl (w : World) (g : Nat) (ty : TypeId) (vs : Array Value) : Prop := w.heap[g]? = some (.cells vs ty (0, 0))
section
variable {w w' : World} {g : Nat} {ty : TypeId} {vs : Array Value}
theorem Cl.lt (h : Cl w g ty vs) : g < w.heap.size := (Array.getElem?_eq_some_iff.1 h).1
theorem Cl.same (h : Cl w g ty vs) (hs : w'.heap[g]? = w.heap[g]?) : Cl w' g ty vs := hs.trans h
theorem Cl.cell (h : Cl w g ty vs) (i : Nat) : w.cell? ⟨g, i, none⟩ = vs[i]? := by
  unfold Cl at h
  simp [World.cell?, h]
theorem Cl.new (w : World) (ty : TypeId) (vs : Array Value) : Cl (w.alloc (.cells vs ty)) w.heap.size ty vs := heap_alloc_new w _
end

inductive Ent where
  | box (ty : TypeId) (cs : List AV)
  | arr (e : TypeId) (sz : Nat) (es : List (List AV))

def ER (M : Mp) (F : Nat → Prop) (w : World) (r : Nat) : Ent → Prop
  | .box ty cs => ∃ g vs, M r = some (.row g cs.length 1) ∧ Cl w g ty vs ∧ vs.size = cs.length ∧ (∀ (j : Nat) (a : AV) (u : Value), cs[j]? = some a → vs[j]? = some u → VR M F w a u)
  | .arr e sz es => 0 < sz ∧ RowsOk sz es ∧ ((M r = some .virt ∧ es = []) ∨ ∃ g c vs, M r = some (.row g c sz) ∧ Cl w g e vs ∧ vs.size = c * sz ∧ es.length ≤ c ∧ c ≤ maxLen ∧
      (∀ (i : Nat) (x : List AV) (j : Nat) (a : AV) (u : Value), es[i]? = some x → x[j]? = some a → vs[i * sz + j]? = some u → VR M F w a u))

theorem ER.mono {M M' : Mp} {F F' : Nat → Prop} {w w' : World} (hM : ∀ r b, M r = some b → M' r = some b) (hF : ∀ b, F b → F' b) (hS : Same F w w') {r : Nat} {x : Ent}
    (hb : ∀ g, blkOf M r = some g → w'.heap[g]? = w.heap[g]?) (h : ER M F w r x) : ER M' F' w' r x := by
  cases x with
  | box ty cs =>
    obtain ⟨g, vs, h1, h2, h3, h4⟩ := h
    exact ⟨g, vs, hM _ _ h1, h2.same (hb g (by simp [blkOf, h1])), h3, fun j a u hj hu => (h4 j a u hj hu).mono hM hF hS⟩
  | arr e sz es =>
    obtain ⟨h0, h1, h2⟩ := h
    refine ⟨h0, h1, ?_⟩
    rcases h2 with ⟨h2, h3⟩ | ⟨g, c, vs, h2, h3, h4, h5, h6, h7⟩
    · exact .inl ⟨hM _ _ h2, h3⟩
    · exact .inr ⟨g, c, vs, hM _ _ h2, h3.same (hb g (by simp [blkOf, h2])), h4, h5, h6, fun i x j a u hi hj hu => (h7 i x j a u hi hj hu).mono hM hF hS⟩
theorem ER.some {M : Mp} {F : Nat → Prop} {w : World} {r : Nat} {x : Ent} (h : ER M F w r x) : M r ≠ none := by
  cases x with
  | box ty cs => obtain ⟨g, vs, h1, _⟩ := h; simp [h1]
  | arr e sz es => obtain ⟨_, _, ⟨h2, _⟩ | ⟨g, c, vs, h2, _⟩⟩ := h <;> simp [h2]
theorem ER.lt {M : Mp} {F : Nat → Prop} {w : World} {r : Nat} {x : Ent} (h : ER M F w r x) {g : Nat} (hg : blkOf M r = .some g) : g < w.heap.size := by
  cases x with
  | box ty cs => obtain ⟨g', vs, h1, h2, _⟩ := h; simp [blkOf, h1] at hg; subst hg; exact h2.lt
  | arr e sz es =>
    obtain ⟨_, _, ⟨h2, _⟩ | ⟨g', c, vs, h2, h3, _⟩⟩ := h
    · simp [blkOf, h2] at hg
    · simp [blkOf, h2] at hg; subst hg; exact h3.lt

abbrev Sto := List (Nat × Ent)
/-- the blocks of a store -/
def Bs (M : Mp) (σ : Sto) (g : Nat) : Prop := ∃ p ∈ σ, blkOf M p.1 = some g

structure SR (M : Mp) (F : Nat → Prop) (N : Nat) (w : World) (σ : Sto) : Prop where
  ent : ∀ p ∈ σ, ER M F w p.1 p.2
  inj : ∀ p ∈ σ, ∀ q ∈ σ, ∀ g, blkOf M p.1 = some g → blkOf M q.1 = some g → p.1 = q.1
  nof : ∀ g, Bs M σ g → ¬ F g
  flt : ∀ b, F b → b < w.heap.size
  fresh : ∀ r, N ≤ r → M r = none

theorem SR.lt {M : Mp} {F : Nat → Prop} {N : Nat} {w : World} {σ : Sto} (h : SR M F N w σ) {g : Nat} (hg : Bs M σ g) : g < w.heap.size := by
  obtain ⟨p, hp, hg⟩ := hg
  exact (h.ent p hp).lt hg
theorem SR.name {M : Mp} {F : Nat → Prop} {N : Nat} {w : World} {σ : Sto} (h : SR M F N w σ) {p : Nat × Ent} (hp : p ∈ σ) : p.1 < N := by
  rcases Nat.lt_or_ge p.1 N with hlt | hge
  · exact hlt
  · exact absurd (h.fresh _ hge) (h.ent p hp).some

/-- what a step may do: from (M, F, N, w, σ) to (M', F', N', w', σ') -/
structure Ext (M : Mp) (F : Nat → Prop) (N : Nat) (w : World) (σ : Sto) (M' : Mp) (F' : Nat → Prop) (N' : Nat) (w' : World) (σ' : Sto) : Prop where
  mm : ∀ r b, M r = some b → M' r = some b
  ff : ∀ b, F b → F' b
  nn : N ≤ N'
  only : Only (Bs M σ) w w'
  old : ∀ g, Bs M' σ' g → g < w.heap.size → Bs M σ g
  fro : ∀ b, F' b → F b ∨ w.heap.size ≤ b ∨ Bs M σ b
  nam : ∀ p ∈ σ', p.1 < N → ∃ q ∈ σ, q.1 = p.1

section
variable {M M' M'' : Mp} {F F' F'' : Nat → Prop} {N N' N'' : Nat} {w w' w'' : World} {σ σ' σ'' : Sto}
theorem Ext.refl (M : Mp) (F : Nat → Prop) (N : Nat) (w : World) (σ : Sto) : Ext M F N w σ M F N w σ :=
  ⟨fun _ _ h => h, fun _ h => h, Nat.le_refl _, Only.refl _ _, fun _ h _ => h, fun _ h => .inl h, fun p hp _ => ⟨p, hp, rfl⟩⟩
theorem Ext.trans (h : Ext M F N w σ M' F' N' w' σ') (k : Ext M' F' N' w' σ' M'' F'' N'' w'' σ'') : Ext M F N w σ M'' F'' N'' w'' σ'' where
  mm r b hr := k.mm r b (h.mm r b hr)
  ff b hb := k.ff b (h.ff b hb)
  nn := Nat.le_trans h.nn k.nn
  only := h.only.trans' k.only fun i hi hb => h.old i hb hi
  old g hg hlt := h.old g (k.old g hg (Nat.lt_of_lt_of_le hlt h.only.size)) hlt
  fro b hb := by
    rcases k.fro b hb with hb | hb | hb
    · exact h.fro b hb
    · exact .inr (.inl (Nat.le_trans h.only.size hb))
    · rcases Nat.lt_or_ge b w.heap.size with hlt | hge
      · exact .inr (.inr (h.old b hb hlt))
      · exact .inr (.inl hge)
  nam p hp hlt := by
    obtain ⟨q, hq, he⟩ := k.nam p hp (Nat.lt_of_lt_of_le hlt h.nn)
    obtain ⟨q', hq', he'⟩ := h.nam q hq (by omega)
    exact ⟨q', hq', he'.trans he⟩
theorem Ext.same (h : Ext M F N w σ M' F' N' w' σ') (hs : SR M F N w σ) : Same F w w' := h.only.same fun b hb => ⟨hs.flt b hb, fun hB => hs.nof b hB hb⟩
theorem Ext.vr (h : Ext M F N w σ M' F' N' w' σ') (hs : SR M F N w σ) {a : AV} {v : Value} (hv : VR M F w a v) : VR M' F' w' a v := hv.mono h.mm h.ff (h.same hs)
theorem Ext.sub (h : Ext M F N w σ M' F' N' w' σ') (hsub : ∀ p ∈ σ'', p ∈ σ') : Ext M F N w σ M' F' N' w' σ'' :=
  { h with old := fun g ⟨p, hp, hg⟩ hlt => h.old g ⟨p, hsub p hp, hg⟩ hlt, nam := fun p hp hlt => h.nam p (hsub p hp) hlt }
theorem SR.sub (h : SR M F N w σ) (hsub : ∀ p ∈ σ', p ∈ σ) : SR M F N w σ' :=
  ⟨fun p hp => h.ent p (hsub p hp), fun p hp q hq => h.inj p (hsub p hp) q (hsub q hq), fun g ⟨p, hp, hg⟩ => h.nof g ⟨p, hsub p hp, hg⟩, h.flt, h.fresh⟩
end

/-! ### frames -/
abbrev Fr := List (Nat × AV)
def fget : Fr → Nat → Option AV
  | [], _ => none
  | (j, x) :: l, i => if i = j then some x else fget l i

structure ASt where
  fr : Fr
  σ : Sto

def ASt.put (s : ASt) (d : Nat) (x : AV) : ASt := ⟨(d, x) :: s.fr, s.σ⟩

structure Rel (M : Mp) (F : Nat → Prop) (N n : Nat) (s : ASt) (a : Act) (w : World) : Prop where
  size : a.tmps.size = n
  defers : a.defers = []
  fr : ∀ i x, fget s.fr i = some x → VR M F w x (a.tmps.getD i Go.undef)
  st : SR M F N w s.σ

section
variable {M M' : Mp} {F F' : Nat → Prop} {N N' n : Nat} {w w' : World} {s s' : ASt} {a : Act}
theorem Rel.put (h : Rel M F N n s a w) {d : Nat} {x : AV} {v : Value} (hd : d < n) (hv : VR M F w x v) : Rel M F N n (s.put d x) (a.put (some d) v) w where
  size := by simp [Act.put, h.size]
  defers := h.defers
  fr i y hi := by
    simp only [ASt.put, fget] at hi
    by_cases hid : i = d
    · subst hid
      rw [if_pos rfl] at hi
      obtain rfl := Option.some.inj hi
      simp [Act.put, h.size, hd]
      exact hv
    · rw [if_neg hid] at hi
      have := h.fr i y hi
      have he : (a.put (some d) v).tmps.getD i Go.undef = a.tmps.getD i Go.undef := by
        simp [Act.put, Array.getElem?_setIfInBounds_ne (fun e => hid e.symm)]
      rw [he]; exact this
  st := h.st
/-- a step of the world: the frame is kept -/
theorem Rel.step (h : Rel M F N n s a w) (he : Ext M F N w s.σ M' F' N' w' s'.σ) (hs : SR M' F' N' w' s'.σ) (hf : s'.fr = s.fr) : Rel M' F' N' n s' a w' :=
  ⟨h.size, h.defers, fun i x hi => he.vr h.st (h.fr i x (hf ▸ hi)), hs⟩
end

end Go.Proofs.Ytkjfflabapeidaa
/-
  The symbolic layer's operations that look and do not write: what each yields. No program is named here.
-/
namespace Go.Proofs.Ytkjfflabapeidaa
open Go.RowKit Go.ChangeShapes Go.WideShapes Go.ChangeAt Go.Deep
set_option linter.unusedSimpArgs false
set_option linter.unusedVariables false

/-- a type's row -/
class Ty (P : Program) (t : TypeId) (d : outParam TypeDesc) : Type where
  und : P.underlying t = some d
class Tz (P : Program) (t : TypeId) (sz bytes : outParam Nat) (z : outParam Value) : Prop where
  inf : (P.info? t).map (fun i => (i.zero, i.size, i.bytes)) = some (some z, sz, bytes)
/-- where a struct's fields lie -/
class Tf (P : Program) (t : TypeId) (pl : outParam (List (Nat × Nat))) : Prop where
  pls : (match P.underlying t with | some (.struct fs) => fs.toList.mapM (fun f => (P.info? f.type).map fun i => (f.offset, i.size)) | _ => none) = some pl
theorem Tz.parts (P : Program) (t : TypeId) {sz bytes : Nat} {z : Value} [h : Tz P t sz bytes z] : ∃ i, P.info? t = some i ∧ i.zero = some z ∧ i.size = sz ∧ i.bytes = bytes := info_parts h.inf

def ofCell : Value → AV
  | .int k n => .int k n
  | .bool b => .bool b
  | .string s => .str s
  | .pointer none => .nilp
  | .slice none 0 0 => .ro 0 [] .nil
  | v => .val v
theorem ofCell_vr {M : Mp} {F : Nat → Prop} {w : World} : ∀ v, VR M F w (ofCell v) v := by
  intro v
  unfold ofCell
  split
  · exact .int _ _
  · exact .bool _
  · exact .str _
  · exact .nilp
  · exact .ro0 (by simp [maxLen]) (fun _ => rfl) (fun _ => rfl) (fun _ => rfl)
  · exact .val _
def ofConst : Value → AV
  | .int k n => .int k n
  | .bool b => .bool b
  | .string s => .str s
  | .pointer none => .nilp
  | .slice none 0 0 => .ro 0 [] .nil
  | .agg vs => .agg (vs.toList.map ofCell)
  | v => .val v
theorem ofConst_vr {M : Mp} {F : Nat → Prop} {w : World} : ∀ v, VR M F w (ofConst v) v := by
  intro v
  unfold ofConst
  split
  · exact .int _ _
  · exact .bool _
  · exact .str _
  · exact .nilp
  · exact .ro0 (by simp [maxLen]) (fun _ => rfl) (fun _ => rfl) (fun _ => rfl)
  · refine .agg (by simp) fun j a u hj hu => ?_
    rw [List.getElem?_map, Array.getElem?_toList, hu] at hj
    obtain rfl := Option.some.inj hj
    exact ofCell_vr u
  · exact .val _

def aev (s : ASt) : Operand → Option AV
  | .tmp t => fget s.fr t
  | .const v => some (ofConst v)
  | .func f => some (.fn (.func f) [] [])
  | .global _ => none

section
variable {M : Mp} {F : Nat → Prop} {N n : Nat} {w : World} {s : ASt} {a : Act}
theorem Rel.aev (h : Rel M F N n s a w) {x : Operand} {v : AV} (hx : aev s x = some v) : VR M F w v (a.eval x) := by
  cases x with
  | tmp t => exact h.fr t v hx
  | const v' =>
    simp only [Go.Proofs.Ytkjfflabapeidaa.aev, Option.some.injEq] at hx
    subst hx
    exact ofConst_vr v'
  | func f =>
    simp only [Go.Proofs.Ytkjfflabapeidaa.aev, Option.some.injEq] at hx
    subst hx
    exact .fn rfl (fun j a u h => by simp at h) rfl (fun j a u h => by simp at h)
  | global g => simp [Go.Proofs.Ytkjfflabapeidaa.aev] at hx

/-- operand x is v, where c holds -/
inductive Ev (s : ASt) (c : Bool) (x : Operand) (v : AV) : Prop
  | here (h : Go.Proofs.Ytkjfflabapeidaa.aev s x = some v) : Ev s c x v
  | when {c' : Bool} (h : Go.Proofs.Ytkjfflabapeidaa.aev s x = some (.when c' v)) (hc : c = true → c' = true) : Ev s c x v
theorem Ev.vr (h : Rel M F N n s a w) {c : Bool} (hc : c = true) {x : Operand} {v : AV} (hx : Ev s c x v) : VR M F w v (a.eval x) := by
  cases hx with
  | here hx => exact h.aev hx
  | when hx hc' =>
    have := h.aev hx
    cases this with
    | when h h0 => exact h (hc' hc)
theorem Ev.int (h : Rel M F N n s a w) {c : Bool} (hc : c = true) {x : Operand} {k : IntKind} {m : Int} (hx : Ev s c x (.int k m)) : a.eval x = .int k m := by
  have := hx.vr h hc
  generalize a.eval x = u at this
  cases this; rfl
theorem Ev.bool (h : Rel M F N n s a w) {c : Bool} (hc : c = true) {x : Operand} {b : Bool} (hx : Ev s c x (.bool b)) : a.eval x = .bool b := by
  have := hx.vr h hc
  generalize a.eval x = u at this
  cases this; rfl
theorem Ev.str (h : Rel M F N n s a w) {c : Bool} (hc : c = true) {x : Operand} {b : ByteArray} (hx : Ev s c x (.str b)) : a.eval x = .string b := by
  have := hx.vr h hc
  generalize a.eval x = u at this
  cases this; rfl
end

/-- A looking operation: what it yields where c holds, and the names of what it reads. -/
def Lop (P : Program) (op : Op) (ty : TypeId) (s : ASt) (c : Bool) (v : AV) (rs : List Nat) : Prop :=
  (∀ r ∈ rs, ∃ p ∈ s.σ, p.1 = r) ∧ ∀ (M : Mp) (F : Nat → Prop) (N n : Nat) (a : Act) (w : World), Rel M F N n s a w → c = true → ∃ u, VR M F w v u ∧
    ∀ (w' : World) (o : Oper), o.op = op → o.type = ty → (∀ g, (F g ∨ ∃ r ∈ rs, blkOf M r = some g) → w'.heap[g]? = w.heap[g]?) → (execOp a.eval o).run P w' = .ok (.value u) w'

section
variable {P : Program} {ty : TypeId} {s : ASt} {c : Bool}

theorem Lop.pure_ {op : Op} {v : AV} (h : ∀ (M : Mp) (F : Nat → Prop) (N n : Nat) (a : Act) (w : World), Rel M F N n s a w → c = true → ∃ u, VR M F w v u ∧
    ∀ (w' : World) (o : Oper), o.op = op → o.type = ty → (execOp a.eval o).run P w' = .ok (.value u) w') : Lop P op ty s c v [] :=
  ⟨fun r hr => by simp at hr, fun M F N n a w hr hc => by
    obtain ⟨u, h1, h2⟩ := h M F N n a w hr hc
    exact ⟨u, h1, fun w' o ho ht _ => h2 w' o ho ht⟩⟩

theorem lop_move {x : Operand} {v : AV} (h : Ev s c x v) : Lop P (.move x) ty s c v [] :=
  Lop.pure_ fun M F N n a w hr hc => ⟨_, h.vr hr hc, fun w' o ho _ => by simp [execOp, ho]⟩
theorem lop_assign {x : Operand} {v : AV} (h : Ev s c x v) : Lop P (.assign x) ty s c v [] :=
  Lop.pure_ fun M F N n a w hr hc => ⟨_, h.vr hr hc, fun w' o ho _ => by simp [execOp, ho]⟩
/-- && and ||: the arm that is picked is known to be a bool where it is wanted -/
theorem lop_pick {x y z : Operand} {b b1 b2 : Bool} (h : Ev s c x (.bool b)) (h1 : Ev s (c && b) y (.bool b1)) (h2 : Ev s (c && !b) z (.bool b2)) : Lop P (.pick x y z) ty s c (.bool (if b then b1 else b2)) [] :=
  Lop.pure_ fun M F N n a w hr hc => by
    refine ⟨_, .bool _, fun w' o ho _ => ?_⟩
    have e := h.bool hr hc
    cases b with
    | true =>
      have e1 := h1.bool hr (by simp [hc])
      simp [execOp, ho, e, e1, asBool]
    | false =>
      have e2 := h2.bool hr (by simp [hc])
      simp [execOp, ho, e, e2, asBool]
theorem lop_not {x : Operand} {t : TypeId} {b : Bool} (h : Ev s c x (.bool b)) : Lop P (.unOp .not t x) ty s c (.bool (!b)) [] :=
  Lop.pure_ fun M F N n a w hr hc => ⟨_, .bool _, fun w' o ho _ => by simp [execOp, ho, h.bool hr hc, Op.unary]⟩
theorem lop_neg {x : Operand} {t : TypeId} {k : IntKind} {m : Int} (h : Ev s c x (.int k m)) : Lop P (.unOp .neg t x) ty s c (.int k (k.wrap (0 - m))) [] :=
  Lop.pure_ fun M F N n a w hr hc => ⟨_, .int _ _, fun w' o ho _ => by simp [execOp, ho, h.int hr hc, Op.unary, Op.intArith]⟩
theorem lop_xor1 {x : Operand} {t : TypeId} {k : IntKind} {m : Int} (h : Ev s c x (.int k m)) : Lop P (.unOp .xor t x) ty s c (.int k (k.wrap (BitVec.ofInt k.bits (if k.signed then -1 else k.max) ^^^ BitVec.ofInt k.bits m).toNat)) [] :=
  Lop.pure_ fun M F N n a w hr hc => ⟨_, .int _ _, fun w' o ho _ => by simp [execOp, ho, h.int hr hc, Op.unary, Op.intBits]⟩

section ints
variable {x y : Operand} {t t' : TypeId} {k k' : IntKind} {m m' : Int}
theorem lop_add (h : Ev s c x (.int k m)) (h' : Ev s c y (.int k m')) : Lop P (.binOp .add t x y t') ty s c (.int k (k.wrap (m + m'))) [] :=
  Lop.pure_ fun M F N n a w hr hc => ⟨_, .int _ _, fun w' o ho _ => by simp [execOp, ho, h.int hr hc, h'.int hr hc, binOp, Op.intArith, eqGuard]⟩
theorem lop_sub (h : Ev s c x (.int k m)) (h' : Ev s c y (.int k m')) : Lop P (.binOp .sub t x y t') ty s c (.int k (k.wrap (m - m'))) [] :=
  Lop.pure_ fun M F N n a w hr hc => ⟨_, .int _ _, fun w' o ho _ => by simp [execOp, ho, h.int hr hc, h'.int hr hc, binOp, Op.intArith, eqGuard]⟩
theorem lop_mul (h : Ev s c x (.int k m)) (h' : Ev s c y (.int k m')) : Lop P (.binOp .mul t x y t') ty s c (.int k (k.wrap (m * m'))) [] :=
  Lop.pure_ fun M F N n a w hr hc => ⟨_, .int _ _, fun w' o ho _ => by simp [execOp, ho, h.int hr hc, h'.int hr hc, binOp, Op.intArith, eqGuard]⟩
theorem lop_quo (h : Ev s c x (.int k m)) (h' : Ev s c y (.int k m')) (h0 : c = true → m' ≠ 0) : Lop P (.binOp .quo t x y t') ty s c (.int k (k.wrap (m.tdiv m'))) [] :=
  Lop.pure_ fun M F N n a w hr hc => ⟨_, .int _ _, fun w' o ho _ => by simp [execOp, ho, h.int hr hc, h'.int hr hc, binOp, Op.intDiv, eqGuard, h0 hc]⟩
theorem lop_rem (h : Ev s c x (.int k m)) (h' : Ev s c y (.int k m')) (h0 : c = true → m' ≠ 0) : Lop P (.binOp .rem t x y t') ty s c (.int k (m.tmod m')) [] :=
  Lop.pure_ fun M F N n a w hr hc => ⟨_, .int _ _, fun w' o ho _ => by simp [execOp, ho, h.int hr hc, h'.int hr hc, binOp, Op.intDiv, eqGuard, h0 hc]⟩
theorem lop_and (h : Ev s c x (.int k m)) (h' : Ev s c y (.int k m')) : Lop P (.binOp .and t x y t') ty s c (.int k (k.wrap (BitVec.ofInt k.bits m &&& BitVec.ofInt k.bits m').toNat)) [] :=
  Lop.pure_ fun M F N n a w hr hc => ⟨_, .int _ _, fun w' o ho _ => by simp [execOp, ho, h.int hr hc, h'.int hr hc, binOp, Op.intBits, eqGuard]⟩
theorem lop_or (h : Ev s c x (.int k m)) (h' : Ev s c y (.int k m')) : Lop P (.binOp .or t x y t') ty s c (.int k (k.wrap (BitVec.ofInt k.bits m ||| BitVec.ofInt k.bits m').toNat)) [] :=
  Lop.pure_ fun M F N n a w hr hc => ⟨_, .int _ _, fun w' o ho _ => by simp [execOp, ho, h.int hr hc, h'.int hr hc, binOp, Op.intBits, eqGuard]⟩
theorem lop_xor (h : Ev s c x (.int k m)) (h' : Ev s c y (.int k m')) : Lop P (.binOp .xor t x y t') ty s c (.int k (k.wrap (BitVec.ofInt k.bits m ^^^ BitVec.ofInt k.bits m').toNat)) [] :=
  Lop.pure_ fun M F N n a w hr hc => ⟨_, .int _ _, fun w' o ho _ => by simp [execOp, ho, h.int hr hc, h'.int hr hc, binOp, Op.intBits, eqGuard]⟩
theorem lop_andNot (h : Ev s c x (.int k m)) (h' : Ev s c y (.int k m')) : Lop P (.binOp .andNot t x y t') ty s c (.int k (k.wrap (BitVec.ofInt k.bits m &&& ~~~BitVec.ofInt k.bits m').toNat)) [] :=
  Lop.pure_ fun M F N n a w hr hc => ⟨_, .int _ _, fun w' o ho _ => by simp [execOp, ho, h.int hr hc, h'.int hr hc, binOp, Op.intBits, eqGuard]⟩
theorem lop_shl (h : Ev s c x (.int k m)) (h' : Ev s c y (.int k' m')) (h0 : c = true → 0 ≤ m') : Lop P (.binOp .shl t x y t') ty s c (.int k (k.wrap (m * 2 ^ min m'.toNat k.bits))) [] :=
  Lop.pure_ fun M F N n a w hr hc => ⟨_, .int _ _, fun w' o ho _ => by
    have := h0 hc
    simp [execOp, ho, h.int hr hc, h'.int hr hc, binOp, Op.shift, eqGuard, show ¬ m' < 0 by omega]⟩
theorem lop_shr (h : Ev s c x (.int k m)) (h' : Ev s c y (.int k' m')) (h0 : c = true → 0 ≤ m') : Lop P (.binOp .shr t x y t') ty s c (.int k (m.fdiv (2 ^ min m'.toNat k.bits))) [] :=
  Lop.pure_ fun M F N n a w hr hc => ⟨_, .int _ _, fun w' o ho _ => by
    have := h0 hc
    simp [execOp, ho, h.int hr hc, h'.int hr hc, binOp, Op.shift, eqGuard, show ¬ m' < 0 by omega]⟩
theorem lop_eql (h : Ev s c x (.int k m)) (h' : Ev s c y (.int k m')) : Lop P (.binOp .eql t x y t') ty s c (.bool (m == m')) [] :=
  Lop.pure_ fun M F N n a w hr hc => ⟨_, .bool _, fun w' o ho _ => by simp [execOp, ho, h.int hr hc, h'.int hr hc, binOp, Op.intCmp, eqGuard]⟩
theorem lop_neq (h : Ev s c x (.int k m)) (h' : Ev s c y (.int k m')) : Lop P (.binOp .neq t x y t') ty s c (.bool (m != m')) [] :=
  Lop.pure_ fun M F N n a w hr hc => ⟨_, .bool _, fun w' o ho _ => by simp [execOp, ho, h.int hr hc, h'.int hr hc, binOp, Op.intCmp, eqGuard]⟩
theorem lop_lss (h : Ev s c x (.int k m)) (h' : Ev s c y (.int k m')) : Lop P (.binOp .lss t x y t') ty s c (.bool (decide (m < m'))) [] :=
  Lop.pure_ fun M F N n a w hr hc => ⟨_, .bool _, fun w' o ho _ => by simp [execOp, ho, h.int hr hc, h'.int hr hc, binOp, Op.intCmp, eqGuard]⟩
theorem lop_leq (h : Ev s c x (.int k m)) (h' : Ev s c y (.int k m')) : Lop P (.binOp .leq t x y t') ty s c (.bool (decide (m ≤ m'))) [] :=
  Lop.pure_ fun M F N n a w hr hc => ⟨_, .bool _, fun w' o ho _ => by simp [execOp, ho, h.int hr hc, h'.int hr hc, binOp, Op.intCmp, eqGuard]⟩
theorem lop_gtr (h : Ev s c x (.int k m)) (h' : Ev s c y (.int k m')) : Lop P (.binOp .gtr t x y t') ty s c (.bool (decide (m' < m))) [] :=
  Lop.pure_ fun M F N n a w hr hc => ⟨_, .bool _, fun w' o ho _ => by simp [execOp, ho, h.int hr hc, h'.int hr hc, binOp, Op.intCmp, eqGuard]⟩
theorem lop_geq (h : Ev s c x (.int k m)) (h' : Ev s c y (.int k m')) : Lop P (.binOp .geq t x y t') ty s c (.bool (decide (m' ≤ m))) [] :=
  Lop.pure_ fun M F N n a w hr hc => ⟨_, .bool _, fun w' o ho _ => by simp [execOp, ho, h.int hr hc, h'.int hr hc, binOp, Op.intCmp, eqGuard]⟩
theorem lop_conv [Ty P t (.int k)] [Ty P t' (.int k')] (h : Ev s c x (.int k m)) : Lop P (.convert t t' x) ty s c (.int k' (k'.wrap m)) [] :=
  Lop.pure_ fun M F N n a w hr hc => ⟨_, .int _ _, fun w' o ho _ => by
    simp [execOp, ho, h.int hr hc, convert, run_underlying (Ty.und (P := P) (t := t)), run_underlying (Ty.und (P := P) (t := t')), Conv.intToInt]⟩
end ints
end

end Go.Proofs.Ytkjfflabapeidaa
