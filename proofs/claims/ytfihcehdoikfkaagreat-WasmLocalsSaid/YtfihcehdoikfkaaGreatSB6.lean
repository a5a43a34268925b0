import Derived.Test.YtfihcehdoikfkaaGreatSB5
set_option linter.unusedSimpArgs false
set_option linter.unusedVariables false
set_option maxRecDepth 100000
set_option maxHeartbeats 4000000
/-
  As many as there are of one part, and not one more: what may be, what is read.
-/
namespace Go.Proofs.YtfihcehdoikfkaaGreat
open Go.RowKit Go.ChangeShapes Go.WideShapes Go.ChangeAt Go.Deep
/-- a module of n alike in one part -/
structure ManyF (M : Md) (n : Nat) : Prop where
  wo : M.WO
  z : M.Z
  g : M.G
  ma : mayA M = decide (n ≤ 16)
  le : (writB M).length ≤ 8000
  pr : prsN (writB M) = (M, ([], false))
  lt : ∀ c ∈ writB M, c < 256
theorem ManyF.may {M : Md} {n : Nat} (h : ManyF M n) : mayM M = decide (n ≤ 16) := by
  rw [mayM_eq, h.ma, decide_eq_true h.le, Bool.and_true]
theorem ManyF.dec {M : Md} {n : Nat} (h : ManyF M n) (hn : 16 < n) : decM (writB M) = (md0, 1) := by
  have := h.le
  have hm := h.may
  unfold decM
  rw [if_neg (by omega), h.pr, if_neg (by simp), if_neg]
  rintro ⟨h1, -⟩
  dsimp only at h1
  rw [hm] at h1
  have := of_decide_eq_true h1
  omega
theorem prs_one {α : Type} {no : Nat} {l : List α} {pt : α → List Nat} {M : Md} (hw : writB M = headB ++ secB no l pt) (hle : (writB M).length ≤ 8000) (h0 : l = [] → M = md0) (hs : seN no md0 (vecB l pt ++ [], false) = (M, ([], false))) : prsN (writB M) = (M, ([], false)) := by
  unfold prsN
  have hbd : skN (writB M, !decide ((writB M).take 8 = headB)) 8 true = (secB no l pt, false) := by
    rw [hw, show (headB ++ secB no l pt).take 8 = headB from List.take_left' rfl, decide_eq_true rfl]
    exact sk_at rfl
  have hl : (secB no l pt).length ≤ 8000 := by rw [hw, List.length_append] at hle; omega
  rw [hbd, dl_fuel _ ((secB no l pt).length + 1) _ _ (by rw [hw, List.length_append]; show (secB no l pt).length < _; omega) (by show (secB no l pt).length < _; omega)]
  have := dn_sec (no := no) (l := l) (pt := pt) (m := md0) (m' := M) (r := []) h0 (vec_le (no := no) hl) hs
  rw [List.append_nil] at this
  show DN md0 (secB no l pt, false) = _
  rw [this]
  exact dn_end M
theorem sec_len20 {P : Program} {t8 : TypeId} {f : FuncId} {α : Type} {ar : α → AV} {pt : α → List Nat} {ok : α → Prop} {c B : Nat} (hf : Puts P t8 f ar pt ok c B) (hB : 1 ≤ B) {l : List α} (hl : ∀ x ∈ l, ok x) (hn : l.length ≤ 20) (hc : c ≤ 300) (no : Nat) : (secB no l pt).length ≤ 6010 := by
  have h1 := vec_len (pt := pt) (l := l) (c := c) (fun x hx => (hf.2 0 [0] x (hl x hx) (by simp) hB).1) (by omega)
  have h2 : l.length * c ≤ 20 * c := Nat.mul_le_mul_right c hn
  have h3 := uB_len 4 (vecB l pt).length (by omega)
  unfold secB
  split
  · simp
  · simp; omega
def tyL (n : Nat) : List FT := List.replicate n ⟨[], []⟩
def glL (n : Nat) : List Gl := (List.range n).map fun i : Nat => ⟨false, 1, i⟩
def exL (n : Nat) : List Ex := (List.range n).map fun i : Nat => ⟨[97 + i], 0⟩
def imL (n : Nat) : List Im := (List.range n).map fun i : Nat => ⟨[109], [110], i⟩
theorem gl_mem {n : Nat} (hn : n ≤ 20) {x : Gl} (h : x ∈ glL n) : ∃ i : Nat, i < 20 ∧ x = ⟨false, 1, i⟩ := by
  obtain ⟨i, hi, rfl⟩ := List.mem_map.1 h
  exact ⟨i, by have := List.mem_range.1 hi; omega, rfl⟩
theorem ex_mem {n : Nat} (hn : n ≤ 20) {x : Ex} (h : x ∈ exL n) : ∃ i : Nat, i < 20 ∧ x = ⟨[97 + i], 0⟩ := by
  obtain ⟨i, hi, rfl⟩ := List.mem_map.1 h
  exact ⟨i, by have := List.mem_range.1 hi; omega, rfl⟩
theorem im_mem {n : Nat} (hn : n ≤ 20) {x : Im} (h : x ∈ imL n) : ∃ i : Nat, i < 20 ∧ x = ⟨[109], [110], i⟩ := by
  obtain ⟨i, hi, rfl⟩ := List.mem_map.1 h
  exact ⟨i, by have := List.mem_range.1 hi; omega, rfl⟩
theorem all_yes {α : Type} {l : List α} {p : α → Bool} (h : ∀ x ∈ l, p x = true) : allN l 16 p = decide (l.length ≤ 16) := by
  unfold allN
  rw [List.all_eq_true.2 h, Bool.and_true]
  exact decide_eq_decide.2 (by omega)
theorem many_ty (n : Nat) (hn : n ≤ 20) : ManyF { md0 with ty := tyL n } n := by
  have hm : ∀ x ∈ tyL n, x = ⟨[], []⟩ := fun x hx => List.eq_of_mem_replicate hx
  have hl : (tyL n).length = n := List.length_replicate
  have hok : ∀ x ∈ tyL n, (allN x.pr 32 kdN && allN x.rs 1 kdN) = true := fun x hx => by rw [hm x hx]; decide
  have hw : writB { md0 with ty := tyL n } = headB ++ secB 1 (tyL n) ftB := by simp [writB, md0, secB, oneL, li0]
  have hle : (writB { md0 with ty := tyL n }).length ≤ 8000 := by
    have := sec_len20 puts_ft (by decide) hok (by omega) (by decide) 1
    rw [hw, List.length_append, show headB.length = 8 from rfl]
    omega
  refine ⟨⟨⟨by simp [md0], by simp [md0], by simp [md0], by simp [md0], by simp [md0]⟩, by simp [md0], by simp [md0]⟩, ?_, ?_, ?_, hle, prs_one hw hle (fun e => by rw [e]; rfl) ?_, ?_⟩
  · refine ⟨⟨by show (tyL n).length ≤ _; omega, fun x hx => by rw [hm x hx]; exact ⟨Nat.zero_le _, Nat.zero_le _⟩⟩, ?_, ?_, ?_, ?_, ?_, ?_, ?_⟩ <;> simp [md0]
  · refine ⟨⟨by show (tyL n).length ≤ _; omega, fun x hx => by rw [hm x hx]; exact ⟨Nat.zero_le _, Nat.zero_le _⟩⟩, ?_, ?_, ?_, ?_, ?_, ?_, ?_, ?_, ?_⟩ <;> simp [md0, li0]
  · have := all_yes hok
    rw [hl] at this
    simp only [mayA, listsN, this]
    simp [md0, allN, limN, li0]
  · unfold seN
    rw [if_pos rfl, li_at ty_at hok (by omega)]
  · rw [hw]
    refine ltA (by decide) (sec_lt (by decide) fun x _ c hc => ?_)
    rcases List.mem_cons.1 hc with rfl | hc
    · decide
    · exact ltA (vec_lt fun k _ => kB_lt k) (vec_lt fun k _ => kB_lt k) c hc
theorem many_gl (n : Nat) (hn : n ≤ 20) : ManyF { md0 with gl := glL n } n := by
  have hl : (glL n).length = n := by simp [glL]
  have hv : ∀ x ∈ glL n, valN x.kd x.n = true ∧ -9223372036854775808 ≤ x.n ∧ x.n ≤ 9223372036854775807 := fun x hx => by
    obtain ⟨i, hi, rfl⟩ := gl_mem hn hx
    refine ⟨?_, by show (_ : Int) ≤ (i : Int); omega, by show (i : Int) ≤ _; omega⟩
    simp [valN]
    omega
  have hw : writB { md0 with gl := glL n } = headB ++ secB 6 (glL n) glB := by simp [writB, md0, secB, oneL, li0]
  have hle : (writB { md0 with gl := glL n }).length ≤ 8000 := by
    have := sec_len20 puts_gl (by decide) hv (by omega) (by decide) 6
    rw [hw, List.length_append, show headB.length = 8 from rfl]
    omega
  refine ⟨⟨⟨by simp [md0], by simp [md0], by simp [md0], by simp [md0], by simp [md0]⟩, by simp [md0], fun x hx => (hv x hx).2⟩, ?_, ?_, ?_, hle, prs_one hw hle (fun e => by rw [e]; rfl) ?_, ?_⟩
  · refine ⟨?_, ?_, ?_, by show (glL n).length ≤ _; omega, ?_, ?_, ?_, ?_⟩ <;> simp [md0]
  · refine ⟨?_, ?_, ?_, ?_, ?_, ⟨by show (glL n).length ≤ _; omega, hv⟩, ?_, ?_, ?_, ?_⟩ <;> simp [md0, li0]
  · have := all_yes (p := fun g : Gl => valN g.kd g.n) fun x hx => (hv x hx).1
    rw [hl] at this
    simp only [mayA, listsN, this]
    simp [md0, allN, limN, li0]
  · unfold seN
    rw [if_neg (by decide), if_neg (by decide), if_neg (by decide), if_neg (by decide), if_neg (by decide), if_pos rfl, li_at gl_at hv (by omega)]
  · rw [hw]
    refine ltA (by decide) (sec_lt (by decide) fun x hx => ?_)
    exact ltA (ltA (kB_lt _) (by intro c hc; rw [List.mem_singleton.1 hc]; split <;> decide)) (con_lt (hv x hx).1 (hv x hx).2)
theorem many_ex (n : Nat) (hn : n ≤ 20) : ManyF { md0 with ex := exL n } n := by
  have hl : (exL n).length = n := by simp [exL]
  have hv : ∀ x ∈ exL n, (nmN x.nm && smN_ x.fn) = true := fun x hx => by
    obtain ⟨i, hi, rfl⟩ := ex_mem hn hx
    simp [nmN, smN_]
    omega
  have hw : writB { md0 with ex := exL n } = headB ++ secB 7 (exL n) exB := by simp [writB, md0, secB, oneL, li0]
  have hle : (writB { md0 with ex := exL n }).length ≤ 8000 := by
    have := sec_len20 puts_ex (by decide) hv (by omega) (by decide) 7
    rw [hw, List.length_append, show headB.length = 8 from rfl]
    omega
  refine ⟨⟨⟨by simp [md0], fun x hx => ?_, by simp [md0], by simp [md0], by simp [md0]⟩, by simp [md0], by simp [md0]⟩, ?_, ?_, ?_, hle, prs_one hw hle (fun e => by rw [e]; rfl) ?_, ?_⟩
  · obtain ⟨i, hi, rfl⟩ := ex_mem hn hx
    exact ⟨by simp, fun c hc => by simp at hc; omega⟩
  · refine ⟨?_, ?_, ?_, ?_, by show (exL n).length ≤ _; omega, ?_, ?_, ?_⟩ <;> simp [md0]
  · refine ⟨?_, ?_, ?_, ?_, ?_, ?_, ⟨by show (exL n).length ≤ _; omega, fun x hx => ?_⟩, ?_, ?_, ?_⟩
    case refine_7 =>
      obtain ⟨i, hi, rfl⟩ := ex_mem hn hx
      exact ⟨⟨by simp, fun c hc => by simp at hc; omega⟩, by show SmI 0; unfold SmI; omega⟩
    all_goals simp [md0, li0]
  · have := all_yes hv
    rw [hl] at this
    simp only [mayA, listsN, this]
    simp [md0, allN, limN, li0]
  · unfold seN
    rw [if_neg (by decide), if_neg (by decide), if_neg (by decide), if_neg (by decide), if_neg (by decide), if_neg (by decide), if_pos rfl, li_at ex_at hv (by omega)]
  · rw [hw]
    refine ltA (by decide) (sec_lt (by decide) fun x hx => ?_)
    have := hv x hx
    simp only [Bool.and_eq_true] at this
    exact ltA (ltA (txt_lt this.1) (by simp)) (uB_lt _)
theorem many_im (n : Nat) (hn : n ≤ 20) : ManyF { md0 with im := imL n } n := by
  have hl : (imL n).length = n := by simp [imL]
  have hv : ∀ x ∈ imL n, (nmN x.mod && nmN x.nm && smN_ x.ty) = true := fun x hx => by
    obtain ⟨i, hi, rfl⟩ := im_mem hn hx
    simp [nmN, smN_]
    omega
  have hw : writB { md0 with im := imL n } = headB ++ secB 2 (imL n) imB := by simp [writB, md0, secB, oneL, li0]
  have hle : (writB { md0 with im := imL n }).length ≤ 8000 := by
    have := sec_len20 puts_im (by decide) hv (by omega) (by decide) 2
    rw [hw, List.length_append, show headB.length = 8 from rfl]
    omega
  refine ⟨⟨⟨fun x hx => ?_, by simp [md0], by simp [md0], by show (imL n).length ≤ _; omega, by simp [md0]⟩, by simp [md0], by simp [md0]⟩, ?_, ?_, ?_, hle, prs_one hw hle (fun e => by rw [e]; rfl) ?_, ?_⟩
  · obtain ⟨i, hi, rfl⟩ := im_mem hn hx
    exact ⟨⟨by simp, fun c hc => by simp at hc; omega⟩, ⟨by simp, fun c hc => by simp at hc; omega⟩⟩
  · refine ⟨?_, by show (imL n).length ≤ _; omega, ?_, ?_, ?_, ?_, ?_, ?_⟩ <;> simp [md0]
  · refine ⟨?_, ⟨by show (imL n).length ≤ _; omega, fun x hx => ?_⟩, ?_, ?_, ?_, ?_, ?_, ?_, ?_, ?_⟩
    case refine_2 =>
      obtain ⟨i, hi, rfl⟩ := im_mem hn hx
      exact ⟨⟨by simp, fun c hc => by simp at hc; omega⟩, ⟨by simp, fun c hc => by simp at hc; omega⟩, by constructor <;> simp <;> omega⟩
    all_goals simp [md0, li0]
  · have := all_yes hv
    rw [hl] at this
    simp only [mayA, listsN, this]
    simp [md0, allN, limN, li0]
    omega
  · unfold seN
    rw [if_neg (by decide), if_pos rfl, li_at im_at hv (by omega)]
  · rw [hw]
    refine ltA (by decide) (sec_lt (by decide) fun x hx => ?_)
    have := hv x hx
    simp only [Bool.and_eq_true] at this
    exact ltA (ltA (ltA (txt_lt this.1.1) (txt_lt this.1.2)) (by simp)) (uB_lt _)
end Go.Proofs.YtfihcehdoikfkaaGreat
/-
  As many as sixteen of each, and not one more.
-/
namespace Go.Proofs.YtfihcehdoikfkaaGreat
open Go.RowKit Go.ChangeShapes Go.WideShapes Go.ChangeAt Go.Deep
attribute [local irreducible] SW RS RD AThen ABlock
theorem and3 (w : Int) : ∃ k : Nat, k ≤ 3 ∧ IntKind.wrap .i64 ((BitVec.ofInt (IntKind.bits .i64) w &&& BitVec.ofInt (IntKind.bits .i64) 3).toNat : Int) = (k : Int) := by
  have h : (BitVec.ofInt (IntKind.bits .i64) w &&& BitVec.ofInt (IntKind.bits .i64) 3).toNat ≤ 3 := by
    rw [BitVec.toNat_and]
    exact Nat.and_le_right
  exact ⟨_, h, wrap_i64_of (by omega) (by omega)⟩
def encT0 (_ : FT) : List AV := [.ro 0 [] .nil, .ro 0 [] .nil]
theorem tyL_next (j : Nat) : tyL j ++ [⟨[], []⟩] = tyL (j + 1) := by unfold tyL; rw [List.replicate_succ']
theorem tyL_le {j : Nat} : VLe (.ro 2 ((tyL j).map encT0) .any) (.ro 2 ((tyL j).map encFT) .any) := by
  refine VLe.ro (by simp) ?_ ?_
  · intro x hx
    simp only [List.mem_map] at hx
    obtain ⟨o, -, rfl⟩ := hx
    exact ⟨rfl, by simp [encFT, AV.cell]⟩
  · intro i e e' h1 h2
    simp only [List.getElem?_map, Option.map_eq_some_iff] at h1 h2
    obtain ⟨o, ho, rfl⟩ := h1
    obtain ⟨o', ho', rfl⟩ := h2
    obtain rfl := List.eq_of_mem_replicate (List.mem_of_getElem? ho')
    refine ⟨rfl, fun j a a' ha ha' => ?_⟩
    match j with
    | 0 => cases ha; cases ha'; exact VLe.empty
    | 1 => cases ha; cases ha'; exact VLe.empty
    | _ + 2 => cases ha
theorem glL_next (j : Nat) : glL j ++ [⟨false, 1, j⟩] = glL (j + 1) := by unfold glL; rw [List.range_succ, List.map_append]; rfl
theorem exL_next (j : Nat) : exL j ++ [⟨[97 + j], 0⟩] = exL (j + 1) := by unfold exL; rw [List.range_succ, List.map_append]; rfl
theorem imL_next (j : Nat) : imL j ++ [⟨[109], [110], j⟩] = imL (j + 1) := by unfold imL; rw [List.range_succ, List.map_append]; rfl
theorem tyL_len (j : Nat) : (tyL j).length = j := List.length_replicate
theorem glL_len (j : Nat) : (glL j).length = j := by simp [glL]
theorem exL_len (j : Nat) : (exL j).length = j := by simp [exL]
theorem imL_len (j : Nat) : (imL j).length = j := by simp [imL]
theorem law_wasmMany2 (a w : Int) : SCall Tryz.prog 9 [.int .i64 a, .int .i64 w] [] (fun y σ => y = .bool true ∧ σ = []) := by
  refine scall_of (n := 97) (ks := [0, 1, 4, 5, 6, 7, 8, 10, 11, 12, 15, 21, 25, 29, 37, 45, 55, 71]) Tryz.func9 rfl rfl (Nat.le_of_ble_eq_true rfl) ?_
  refine ctlT ?_
  obtain ⟨w1, hw1, hw⟩ := and3 w
  refine rgT ?_
  refine sq22 ?_
  refine puA Tryz.call10 law_begun7 rfl pargsT nofT ?_
  refine sq27 ?_
  refine lo (lop_not (E rfl)) rfl ?_
  refine sq38 ?_
  refine lo (lop_lss (E rfl) (E rfl)) rfl ?_
  refine sq9 ?_
  refine z125 ?_
  refine sq105 ?_
  refine sw_cond rfl (fun g4 => ?_) (fun g4 => ?_)
  · refine sq7 ?_
    apply aend; exact resT
    · exact ⟨rfl, rfl⟩
    · exact stleT
  obtain ⟨n, rfl, hn⟩ : ∃ n : Nat, a = n ∧ n ≤ 20 := by
    have : ∀ p q : Bool, (if p = true then true else q) = false → p = false ∧ q = false := by intro p q; cases p <;> cases q <;> simp
    obtain ⟨h1, h2⟩ := this _ _ g4
    simp only [decide_eq_false_iff_not] at h1 h2
    exact ⟨a.toNat, by omega, by omega⟩
  refine sq3 ?_
  refine z93 ?_
  apply al; rfl; (exact zcT); refine freshT fun r6 h6 => ?_; repeat rcases h6 with ⟨_, h6⟩
  apply stp; rfl; rfl; rfl; rfl; (exact sputT)
  refine sq6 ?_
  obtain rfl | rfl | rfl | rfl : w1 = 0 ∨ w1 = 1 ∨ w1 = 2 ∨ w1 = 3 := by omega
  · refine sq51 ?_
    refine sw_virt_box (ks := [0, 1, 4, 5, 6, 7, 8, 10, 11, 12, 15, 21, 25, 29, 37, 45, 55, 71]) r6 0 58 2 (by decide) sgT rfl (by decide) fun q0 hq0 => ?_
    simp only [fresh_cons, fresh_nil, and_true] at hq0
    apply Exists.intro; apply And.intro; (exact ssetT)
    refine lp (β := Nat × Nat) (fun b => ⟨[(0, .int .i64 n), (1, .int .i64 w), (6, .ptr r6 0), (7, .int .i64 b.2)], [(r6, .box 33 [.own b.1 0 (tyL b.2).length, .ro 0 [] .nil, .ro 0 [] .nil, .bool false, .int .i64 0, .int .i64 0, .bool false, .int .i64 0, .int .i64 0, .ro 0 [] .nil, .ro 0 [] .nil, .ro 0 [] .nil, .ro 0 [] .nil, .ro 0 [] .nil]), (b.1, .arr 58 2 ((tyL b.2).map encT0))]⟩) (fun b => b.2 ≤ n ∧ Nq b.1 r6) (fun b => n - b.2) (q0, 0) sgoT ⟨Nat.zero_le _, by show Nq q0 r6; (exact nqT)⟩ ?_
    rintro ⟨q1, j⟩ ⟨hj, e1⟩
    dsimp only at hj e1 ⊢
    have hrl := tyL_len j
    refine sq8 ?_
    refine sq10 ?_
    refine sw_cond rfl (fun g8 => ?_) (fun g8 => ?_)
    · have hlt : j < n := by simpa using g8
      refine sq4 ?_
      refine lo (lop_and (E rfl) (E rfl)) rfl ?_
      refine sq6 ?_
      rw [hw]
      refine sq25 ?_
      refine rgT ?_
      refine sq12 ?_
      refine z93 ?_
      refine z1 ?_; refine freshT fun r42 h42 => ?_; repeat rcases h42 with ⟨_, h42⟩
      refine apA ((tyL j ++ [(⟨[], []⟩ : FT)]).map encT0) (tyL j ++ [(⟨[], []⟩ : FT)]).length ?_
      refine apnT fun r43 h43 => ?_; repeat rcases h43 with ⟨_, h43⟩
      refine z59 ?_
      apply stp; rfl; rfl; rfl; rfl; (exact sputT)
      refine sq38 ?_
      refine sq37 ?_
      refine ⟨(r43, j + 1), ⟨hlt, by show Nq r43 r6; (exact nqT)⟩, by show n - (j + 1) < n - j; omega, ?_⟩
      dsimp only
      rw [← tyL_next j]
      exact sgoT
    obtain rfl : j = n := by simp at g8; omega
    have hF := many_ty j hn
    refine sw_go (sgo_fzb (r := r6) (q := q1) ssetT sdelT (.cons (bor_own sgT (by simp)) (.cons (.refl _) (.cons (.refl _) (.cons (.refl _) (.cons (.refl _) (.cons (.refl _) (.cons (.refl _) (.cons (.refl _) (.cons (.refl _) (.cons (.refl _) (.cons (.refl _) (.cons (.refl _) (.cons (.refl _) (.cons (.refl _) .nil))))))))))))))) ?_
    refine sw_go (sgo_leb (r := r6) (cs' := encMd { md0 with ty := tyL j }) ssetT (.cons (.le tyL_le) (.cons (.le VLe.empty) (.cons (.le VLe.empty) (.cons (.refl _) (.cons (.refl _) (.cons (.refl _) (.cons (.refl _) (.cons (.refl _) (.cons (.refl _) (.cons (.le VLe.empty) (.cons (.le VLe.empty) (.cons (.le VLe.empty) (.cons (.le VLe.empty) (.cons (.le VLe.empty) .nil))))))))))))))) ?_
    generalize ({ md0 with ty := tyL j } : Md) = M at hF ⊢
    refine sq78 ?_
    refine clA Tryz.call13 (wasm_encode M hF.wo) rfl bargsT noT ?_
    rintro _ σ' ⟨q69, rfl, rfl⟩ h69
    replace h69 := lnewT h69; repeat rcases h69 with ⟨_, h69⟩
    apply rs_sto; exact nflT
    refine fzv (j := 69) rfl sdelT (bor_own sgT (by simp)) ?_
    refine sq27 ?_
    refine sq47 ?_
    refine sw_cond rfl (fun g19 => ?_) (fun g19 => ?_)
    · have h16 : 16 < j := by simp at g19; omega
      have hm : mayM M = false := by rw [hF.may]; exact decide_eq_false (by omega)
      have hen : (encB M).length = 0 := by unfold encB; rw [hm]; rfl
      have wd := wasm_decode (writB M) (by have := hF.le; omega) hF.lt
      rw [hF.dec h16] at wd
      refine sq78 ?_
      refine clA Tryz.call18 (ref_bytes M hF.g) rfl bargsT noT ?_
      rintro _ σ' ⟨q74, rfl, rfl⟩ h74
      replace h74 := lnewT h74; repeat rcases h74 with ⟨_, h74⟩
      apply rs_sto; exact nflT
      refine fzv (j := 74) rfl sdelT (bor_own sgT (by simp)) ?_
      refine cw [] Tryz.call17 wd rfl argsleT stleT ?_
      rintro _ σ' ⟨rfl, rfl⟩ h75
      apply rs_sto; exact nflT
      refine sq24 ?_
      apply al; rfl; (exact zcT); refine freshT fun r9 h9 => ?_; repeat rcases h9 with ⟨_, h9⟩
      apply stp; rfl; rfl; rfl; rfl; (exact sputT)
      refine sq27 ?_
      refine z14 ?_
      refine sq92 ?_
      refine z112 ?_
      refine sq28 ?_
      apply aend; exact resT
      · exact ⟨by rw [hen]; rfl, rfl⟩
      · exact stleT
    have h16 : j ≤ 16 := by simp at g19; omega
    have hm : mayM M = true := by rw [hF.may]; exact decide_eq_true h16
    have hen : encB M = writB M := if_pos hm
    have wd := wasm_decode (encB M) (by rw [hen]; have := hF.le; omega) (encB_lt hF.wo)
    rw [show decM (encB M) = (M, 0) by rw [hen]; exact dec_back hm hF.wo.ok] at wd
    have weq := ref_eq M M hF.wo.w hF.wo.w hF.z hF.z
    rw [eqM_self] at weq
    refine sq4 ?_
    refine cw [] Tryz.call17 wd rfl argsleT stleT ?_
    rintro _ σ' ⟨rfl, rfl⟩ h87
    apply rs_sto; exact nflT
    refine sq24 ?_
    apply al; rfl; (exact zcT); refine freshT fun r11 h11 => ?_; repeat rcases h11 with ⟨_, h11⟩
    apply stp; rfl; rfl; rfl; rfl; (exact sputT)
    refine sq27 ?_
    refine lo (lop_eql (E rfl) (E rfl)) rfl ?_
    refine sq83 ?_
    refine z139 ?_
    refine pugA rfl rfl Tryz.call16 (fun _ => weq) rfl pargsT nofT ?_
    refine sq28 ?_
    apply aend; exact resT
    · exact ⟨rfl, rfl⟩
    · exact stleT
  · refine sq51 ?_
    refine sw_virt_box (ks := [0, 1, 4, 5, 6, 7, 8, 10, 11, 12, 15, 21, 25, 29, 37, 45, 55, 71]) r6 9 66 3 (by decide) sgT rfl (by decide) fun q0 hq0 => ?_
    simp only [fresh_cons, fresh_nil, and_true] at hq0
    apply Exists.intro; apply And.intro; (exact ssetT)
    refine lp (β := Nat × Nat) (fun b => ⟨[(0, .int .i64 n), (1, .int .i64 w), (6, .ptr r6 0), (7, .int .i64 b.2)], [(r6, .box 33 [.ro 0 [] .nil, .ro 0 [] .nil, .ro 0 [] .nil, .bool false, .int .i64 0, .int .i64 0, .bool false, .int .i64 0, .int .i64 0, .own b.1 0 (glL b.2).length, .ro 0 [] .nil, .ro 0 [] .nil, .ro 0 [] .nil, .ro 0 [] .nil]), (b.1, .arr 66 3 ((glL b.2).map encGl))]⟩) (fun b => b.2 ≤ n ∧ Nq b.1 r6) (fun b => n - b.2) (q0, 0) sgoT ⟨Nat.zero_le _, by show Nq q0 r6; (exact nqT)⟩ ?_
    rintro ⟨q1, j⟩ ⟨hj, e1⟩
    dsimp only at hj e1 ⊢
    have hrl := glL_len j
    refine sq8 ?_
    refine sq10 ?_
    refine sw_cond rfl (fun g8 => ?_) (fun g8 => ?_)
    · have hlt : j < n := by simpa using g8
      refine sq4 ?_
      refine lo (lop_and (E rfl) (E rfl)) rfl ?_
      refine sq6 ?_
      rw [hw]
      refine sq25 ?_
      refine sq25 ?_
      refine rgT ?_
      refine sq12 ?_
      refine lo (lop_move (E rfl)) rfl ?_
      refine z93 ?_
      refine z93 ?_
      refine z1 ?_; refine freshT fun r52 h52 => ?_; repeat rcases h52 with ⟨_, h52⟩
      refine apA ((glL j ++ [(⟨false, 1, j⟩ : Gl)]).map encGl) (glL j ++ [(⟨false, 1, j⟩ : Gl)]).length ?_
      refine apnT fun r53 h53 => ?_; repeat rcases h53 with ⟨_, h53⟩
      refine z59 ?_
      apply stp; rfl; rfl; rfl; rfl; (exact sputT)
      refine sq38 ?_
      refine sq37 ?_
      refine ⟨(r53, j + 1), ⟨hlt, by show Nq r53 r6; (exact nqT)⟩, by show n - (j + 1) < n - j; omega, ?_⟩
      dsimp only
      rw [← glL_next j]
      exact sgoT
    obtain rfl : j = n := by simp at g8; omega
    have hF := many_gl j hn
    refine sw_go (sgo_fzb (r := r6) (q := q1) ssetT sdelT (.cons (.refl _) (.cons (.refl _) (.cons (.refl _) (.cons (.refl _) (.cons (.refl _) (.cons (.refl _) (.cons (.refl _) (.cons (.refl _) (.cons (.refl _) (.cons (bor_own sgT (by simp)) (.cons (.refl _) (.cons (.refl _) (.cons (.refl _) (.cons (.refl _) .nil))))))))))))))) ?_
    refine sw_go (sgo_leb (r := r6) (cs' := encMd { md0 with gl := glL j }) ssetT (.cons (.le VLe.empty) (.cons (.le VLe.empty) (.cons (.le VLe.empty) (.cons (.refl _) (.cons (.refl _) (.cons (.refl _) (.cons (.refl _) (.cons (.refl _) (.cons (.refl _) (.cons (.refl _) (.cons (.le VLe.empty) (.cons (.le VLe.empty) (.cons (.le VLe.empty) (.cons (.le VLe.empty) .nil))))))))))))))) ?_
    generalize ({ md0 with gl := glL j } : Md) = M at hF ⊢
    refine sq78 ?_
    refine clA Tryz.call13 (wasm_encode M hF.wo) rfl bargsT noT ?_
    rintro _ σ' ⟨q69, rfl, rfl⟩ h69
    replace h69 := lnewT h69; repeat rcases h69 with ⟨_, h69⟩
    apply rs_sto; exact nflT
    refine fzv (j := 69) rfl sdelT (bor_own sgT (by simp)) ?_
    refine sq27 ?_
    refine sq47 ?_
    refine sw_cond rfl (fun g19 => ?_) (fun g19 => ?_)
    · have h16 : 16 < j := by simp at g19; omega
      have hm : mayM M = false := by rw [hF.may]; exact decide_eq_false (by omega)
      have hen : (encB M).length = 0 := by unfold encB; rw [hm]; rfl
      have wd := wasm_decode (writB M) (by have := hF.le; omega) hF.lt
      rw [hF.dec h16] at wd
      refine sq78 ?_
      refine clA Tryz.call18 (ref_bytes M hF.g) rfl bargsT noT ?_
      rintro _ σ' ⟨q74, rfl, rfl⟩ h74
      replace h74 := lnewT h74; repeat rcases h74 with ⟨_, h74⟩
      apply rs_sto; exact nflT
      refine fzv (j := 74) rfl sdelT (bor_own sgT (by simp)) ?_
      refine cw [] Tryz.call17 wd rfl argsleT stleT ?_
      rintro _ σ' ⟨rfl, rfl⟩ h75
      apply rs_sto; exact nflT
      refine sq24 ?_
      apply al; rfl; (exact zcT); refine freshT fun r9 h9 => ?_; repeat rcases h9 with ⟨_, h9⟩
      apply stp; rfl; rfl; rfl; rfl; (exact sputT)
      refine sq27 ?_
      refine z14 ?_
      refine sq92 ?_
      refine z112 ?_
      refine sq28 ?_
      apply aend; exact resT
      · exact ⟨by rw [hen]; rfl, rfl⟩
      · exact stleT
    have h16 : j ≤ 16 := by simp at g19; omega
    have hm : mayM M = true := by rw [hF.may]; exact decide_eq_true h16
    have hen : encB M = writB M := if_pos hm
    have wd := wasm_decode (encB M) (by rw [hen]; have := hF.le; omega) (encB_lt hF.wo)
    rw [show decM (encB M) = (M, 0) by rw [hen]; exact dec_back hm hF.wo.ok] at wd
    have weq := ref_eq M M hF.wo.w hF.wo.w hF.z hF.z
    rw [eqM_self] at weq
    refine sq4 ?_
    refine cw [] Tryz.call17 wd rfl argsleT stleT ?_
    rintro _ σ' ⟨rfl, rfl⟩ h87
    apply rs_sto; exact nflT
    refine sq24 ?_
    apply al; rfl; (exact zcT); refine freshT fun r11 h11 => ?_; repeat rcases h11 with ⟨_, h11⟩
    apply stp; rfl; rfl; rfl; rfl; (exact sputT)
    refine sq27 ?_
    refine lo (lop_eql (E rfl) (E rfl)) rfl ?_
    refine sq83 ?_
    refine z139 ?_
    refine pugA rfl rfl Tryz.call16 (fun _ => weq) rfl pargsT nofT ?_
    refine sq28 ?_
    apply aend; exact resT
    · exact ⟨rfl, rfl⟩
    · exact stleT
  · refine sq51 ?_
    refine sw_virt_box (ks := [0, 1, 4, 5, 6, 7, 8, 10, 11, 12, 15, 21, 25, 29, 37, 45, 55, 71]) r6 10 50 2 (by decide) sgT rfl (by decide) fun q0 hq0 => ?_
    simp only [fresh_cons, fresh_nil, and_true] at hq0
    apply Exists.intro; apply And.intro; (exact ssetT)
    refine lp (β := Nat × Nat) (fun b => ⟨[(0, .int .i64 n), (1, .int .i64 w), (6, .ptr r6 0), (7, .int .i64 b.2)], [(r6, .box 33 [.ro 0 [] .nil, .ro 0 [] .nil, .ro 0 [] .nil, .bool false, .int .i64 0, .int .i64 0, .bool false, .int .i64 0, .int .i64 0, .ro 0 [] .nil, .own b.1 0 (exL b.2).length, .ro 0 [] .nil, .ro 0 [] .nil, .ro 0 [] .nil]), (b.1, .arr 50 2 ((exL b.2).map encEx))]⟩) (fun b => b.2 ≤ n ∧ Nq b.1 r6) (fun b => n - b.2) (q0, 0) sgoT ⟨Nat.zero_le _, by show Nq q0 r6; (exact nqT)⟩ ?_
    rintro ⟨q1, j⟩ ⟨hj, e1⟩
    dsimp only at hj e1 ⊢
    have hrl := exL_len j
    refine sq8 ?_
    refine sq10 ?_
    refine sw_cond rfl (fun g8 => ?_) (fun g8 => ?_)
    · have hlt : j < n := by simpa using g8
      refine sq4 ?_
      refine lo (lop_and (E rfl) (E rfl)) rfl ?_
      refine sq6 ?_
      rw [hw]
      refine sq25 ?_
      refine sq25 ?_
      refine sq25 ?_
      refine rgT ?_
      refine sq12 ?_
      refine lo (lop_move (E rfl)) rfl ?_
      refine z17 ?_
      refine z0 ?_
      refine z1 ?_; refine freshT fun r62 h62 => ?_; repeat rcases h62 with ⟨_, h62⟩
      rw [show [[AV.int .u8 (97 + (j : Int))]] = [97 + j].map encU from by simp [encU]]
      refine z145 ?_
      refine z93 ?_
      refine z1 ?_; refine freshT fun r65 h65 => ?_; repeat rcases h65 with ⟨_, h65⟩
      refine apA ((exL j ++ [(⟨[97 + j], 0⟩ : Ex)]).map encEx) (exL j ++ [(⟨[97 + j], 0⟩ : Ex)]).length ?_
      refine apnT fun r66 h66 => ?_; repeat rcases h66 with ⟨_, h66⟩
      refine z59 ?_
      apply stp; rfl; rfl; rfl; rfl; (exact sputT)
      refine sq38 ?_
      refine sq37 ?_
      refine ⟨(r66, j + 1), ⟨hlt, by show Nq r66 r6; (exact nqT)⟩, by show n - (j + 1) < n - j; omega, ?_⟩
      dsimp only
      rw [← exL_next j]
      exact sgoT
    obtain rfl : j = n := by simp at g8; omega
    have hF := many_ex j hn
    refine sw_go (sgo_fzb (r := r6) (q := q1) ssetT sdelT (.cons (.refl _) (.cons (.refl _) (.cons (.refl _) (.cons (.refl _) (.cons (.refl _) (.cons (.refl _) (.cons (.refl _) (.cons (.refl _) (.cons (.refl _) (.cons (.refl _) (.cons (bor_own sgT (by simp)) (.cons (.refl _) (.cons (.refl _) (.cons (.refl _) .nil))))))))))))))) ?_
    refine sw_go (sgo_leb (r := r6) (cs' := encMd { md0 with ex := exL j }) ssetT (.cons (.le VLe.empty) (.cons (.le VLe.empty) (.cons (.le VLe.empty) (.cons (.refl _) (.cons (.refl _) (.cons (.refl _) (.cons (.refl _) (.cons (.refl _) (.cons (.refl _) (.cons (.le VLe.empty) (.cons (.refl _) (.cons (.le VLe.empty) (.cons (.le VLe.empty) (.cons (.le VLe.empty) .nil))))))))))))))) ?_
    generalize ({ md0 with ex := exL j } : Md) = M at hF ⊢
    refine sq78 ?_
    refine clA Tryz.call13 (wasm_encode M hF.wo) rfl bargsT noT ?_
    rintro _ σ' ⟨q69, rfl, rfl⟩ h69
    replace h69 := lnewT h69; repeat rcases h69 with ⟨_, h69⟩
    apply rs_sto; exact nflT
    refine fzv (j := 69) rfl sdelT (bor_own sgT (by simp)) ?_
    refine sq27 ?_
    refine sq47 ?_
    refine sw_cond rfl (fun g19 => ?_) (fun g19 => ?_)
    · have h16 : 16 < j := by simp at g19; omega
      have hm : mayM M = false := by rw [hF.may]; exact decide_eq_false (by omega)
      have hen : (encB M).length = 0 := by unfold encB; rw [hm]; rfl
      have wd := wasm_decode (writB M) (by have := hF.le; omega) hF.lt
      rw [hF.dec h16] at wd
      refine sq78 ?_
      refine clA Tryz.call18 (ref_bytes M hF.g) rfl bargsT noT ?_
      rintro _ σ' ⟨q74, rfl, rfl⟩ h74
      replace h74 := lnewT h74; repeat rcases h74 with ⟨_, h74⟩
      apply rs_sto; exact nflT
      refine fzv (j := 74) rfl sdelT (bor_own sgT (by simp)) ?_
      refine cw [] Tryz.call17 wd rfl argsleT stleT ?_
      rintro _ σ' ⟨rfl, rfl⟩ h75
      apply rs_sto; exact nflT
      refine sq24 ?_
      apply al; rfl; (exact zcT); refine freshT fun r9 h9 => ?_; repeat rcases h9 with ⟨_, h9⟩
      apply stp; rfl; rfl; rfl; rfl; (exact sputT)
      refine sq27 ?_
      refine z14 ?_
      refine sq92 ?_
      refine z112 ?_
      refine sq28 ?_
      apply aend; exact resT
      · exact ⟨by rw [hen]; rfl, rfl⟩
      · exact stleT
    have h16 : j ≤ 16 := by simp at g19; omega
    have hm : mayM M = true := by rw [hF.may]; exact decide_eq_true h16
    have hen : encB M = writB M := if_pos hm
    have wd := wasm_decode (encB M) (by rw [hen]; have := hF.le; omega) (encB_lt hF.wo)
    rw [show decM (encB M) = (M, 0) by rw [hen]; exact dec_back hm hF.wo.ok] at wd
    have weq := ref_eq M M hF.wo.w hF.wo.w hF.z hF.z
    rw [eqM_self] at weq
    refine sq4 ?_
    refine cw [] Tryz.call17 wd rfl argsleT stleT ?_
    rintro _ σ' ⟨rfl, rfl⟩ h87
    apply rs_sto; exact nflT
    refine sq24 ?_
    apply al; rfl; (exact zcT); refine freshT fun r11 h11 => ?_; repeat rcases h11 with ⟨_, h11⟩
    apply stp; rfl; rfl; rfl; rfl; (exact sputT)
    refine sq27 ?_
    refine lo (lop_eql (E rfl) (E rfl)) rfl ?_
    refine sq83 ?_
    refine z139 ?_
    refine pugA rfl rfl Tryz.call16 (fun _ => weq) rfl pargsT nofT ?_
    refine sq28 ?_
    apply aend; exact resT
    · exact ⟨rfl, rfl⟩
    · exact stleT
  · refine sq51 ?_
    refine sw_virt_box (ks := [0, 1, 4, 5, 6, 7, 8, 10, 11, 12, 15, 21, 25, 29, 37, 45, 55, 71]) r6 1 48 3 (by decide) sgT rfl (by decide) fun q0 hq0 => ?_
    simp only [fresh_cons, fresh_nil, and_true] at hq0
    apply Exists.intro; apply And.intro; (exact ssetT)
    refine lp (β := Nat × Nat) (fun b => ⟨[(0, .int .i64 n), (1, .int .i64 w), (6, .ptr r6 0), (7, .int .i64 b.2)], [(r6, .box 33 [.ro 0 [] .nil, .own b.1 0 (imL b.2).length, .ro 0 [] .nil, .bool false, .int .i64 0, .int .i64 0, .bool false, .int .i64 0, .int .i64 0, .ro 0 [] .nil, .ro 0 [] .nil, .ro 0 [] .nil, .ro 0 [] .nil, .ro 0 [] .nil]), (b.1, .arr 48 3 ((imL b.2).map encIm))]⟩) (fun b => b.2 ≤ n ∧ Nq b.1 r6) (fun b => n - b.2) (q0, 0) sgoT ⟨Nat.zero_le _, by show Nq q0 r6; (exact nqT)⟩ ?_
    rintro ⟨q1, j⟩ ⟨hj, e1⟩
    dsimp only at hj e1 ⊢
    have hrl := imL_len j
    refine sq8 ?_
    refine sq10 ?_
    refine sw_cond rfl (fun g8 => ?_) (fun g8 => ?_)
    · have hlt : j < n := by simpa using g8
      refine sq4 ?_
      refine lo (lop_and (E rfl) (E rfl)) rfl ?_
      refine sq6 ?_
      rw [hw]
      refine sq25 ?_
      refine sq25 ?_
      refine sq25 ?_
      refine rgT ?_
      refine sq12 ?_
      refine lo (lop_move (E rfl)) rfl ?_
      refine z93 ?_
      refine z1 ?_; refine freshT fun r34 h34 => ?_; repeat rcases h34 with ⟨_, h34⟩
      refine apA ((imL j ++ [(⟨[109], [110], j⟩ : Im)]).map encIm) (imL j ++ [(⟨[109], [110], j⟩ : Im)]).length ?_
      refine apnT fun r35 h35 => ?_; repeat rcases h35 with ⟨_, h35⟩
      refine z59 ?_
      apply stp; rfl; rfl; rfl; rfl; (exact sputT)
      refine sq38 ?_
      refine sq37 ?_
      refine ⟨(r35, j + 1), ⟨hlt, by show Nq r35 r6; (exact nqT)⟩, by show n - (j + 1) < n - j; omega, ?_⟩
      dsimp only
      rw [← imL_next j]
      exact sgoT
    obtain rfl : j = n := by simp at g8; omega
    have hF := many_im j hn
    refine sw_go (sgo_fzb (r := r6) (q := q1) ssetT sdelT (.cons (.refl _) (.cons (bor_own sgT (by simp)) (.cons (.refl _) (.cons (.refl _) (.cons (.refl _) (.cons (.refl _) (.cons (.refl _) (.cons (.refl _) (.cons (.refl _) (.cons (.refl _) (.cons (.refl _) (.cons (.refl _) (.cons (.refl _) (.cons (.refl _) .nil))))))))))))))) ?_
    refine sw_go (sgo_leb (r := r6) (cs' := encMd { md0 with im := imL j }) ssetT (.cons (.le VLe.empty) (.cons (.refl _) (.cons (.le VLe.empty) (.cons (.refl _) (.cons (.refl _) (.cons (.refl _) (.cons (.refl _) (.cons (.refl _) (.cons (.refl _) (.cons (.le VLe.empty) (.cons (.le VLe.empty) (.cons (.le VLe.empty) (.cons (.le VLe.empty) (.cons (.le VLe.empty) .nil))))))))))))))) ?_
    generalize ({ md0 with im := imL j } : Md) = M at hF ⊢
    refine sq78 ?_
    refine clA Tryz.call13 (wasm_encode M hF.wo) rfl bargsT noT ?_
    rintro _ σ' ⟨q69, rfl, rfl⟩ h69
    replace h69 := lnewT h69; repeat rcases h69 with ⟨_, h69⟩
    apply rs_sto; exact nflT
    refine fzv (j := 69) rfl sdelT (bor_own sgT (by simp)) ?_
    refine sq27 ?_
    refine sq47 ?_
    refine sw_cond rfl (fun g19 => ?_) (fun g19 => ?_)
    · have h16 : 16 < j := by simp at g19; omega
      have hm : mayM M = false := by rw [hF.may]; exact decide_eq_false (by omega)
      have hen : (encB M).length = 0 := by unfold encB; rw [hm]; rfl
      have wd := wasm_decode (writB M) (by have := hF.le; omega) hF.lt
      rw [hF.dec h16] at wd
      refine sq78 ?_
      refine clA Tryz.call18 (ref_bytes M hF.g) rfl bargsT noT ?_
      rintro _ σ' ⟨q74, rfl, rfl⟩ h74
      replace h74 := lnewT h74; repeat rcases h74 with ⟨_, h74⟩
      apply rs_sto; exact nflT
      refine fzv (j := 74) rfl sdelT (bor_own sgT (by simp)) ?_
      refine cw [] Tryz.call17 wd rfl argsleT stleT ?_
      rintro _ σ' ⟨rfl, rfl⟩ h75
      apply rs_sto; exact nflT
      refine sq24 ?_
      apply al; rfl; (exact zcT); refine freshT fun r9 h9 => ?_; repeat rcases h9 with ⟨_, h9⟩
      apply stp; rfl; rfl; rfl; rfl; (exact sputT)
      refine sq27 ?_
      refine z14 ?_
      refine sq92 ?_
      refine z112 ?_
      refine sq28 ?_
      apply aend; exact resT
      · exact ⟨by rw [hen]; rfl, rfl⟩
      · exact stleT
    have h16 : j ≤ 16 := by simp at g19; omega
    have hm : mayM M = true := by rw [hF.may]; exact decide_eq_true h16
    have hen : encB M = writB M := if_pos hm
    have wd := wasm_decode (encB M) (by rw [hen]; have := hF.le; omega) (encB_lt hF.wo)
    rw [show decM (encB M) = (M, 0) by rw [hen]; exact dec_back hm hF.wo.ok] at wd
    have weq := ref_eq M M hF.wo.w hF.wo.w hF.z hF.z
    rw [eqM_self] at weq
    refine sq4 ?_
    refine cw [] Tryz.call17 wd rfl argsleT stleT ?_
    rintro _ σ' ⟨rfl, rfl⟩ h87
    apply rs_sto; exact nflT
    refine sq24 ?_
    apply al; rfl; (exact zcT); refine freshT fun r11 h11 => ?_; repeat rcases h11 with ⟨_, h11⟩
    apply stp; rfl; rfl; rfl; rfl; (exact sputT)
    refine sq27 ?_
    refine lo (lop_eql (E rfl) (E rfl)) rfl ?_
    refine sq83 ?_
    refine z139 ?_
    refine pugA rfl rfl Tryz.call16 (fun _ => weq) rfl pargsT nofT ?_
    refine sq28 ?_
    apply aend; exact resT
    · exact ⟨rfl, rfl⟩
    · exact stleT
theorem law_wasmMany3 (a w : Int) : SCall Tryz.prog 9 [.int .i64 a, .int .i64 w] [] (fun y _ => y = .bool true) := (law_wasmMany2 a w).mono fun _ _ h => h.1
end Go.Proofs.YtfihcehdoikfkaaGreat
/-
  A nil slice within an own row as an own row; two rows frozen at once.
-/
namespace Go.Proofs.YtfihcehdoikfkaaGreat
open Go.RowKit Go.ChangeShapes Go.WideShapes Go.ChangeAt Go.Deep
theorem sw_virt_arr {P : Program} {n : Nat} {ks : List Nat} {s : ASt} {c : Code} {Q : Exit → ASt → Prop} (r i off : Nat) (e : TypeId) (sz : Nat) (h0 : 0 < sz) {et : TypeId} {sz1 : Nat} {es : List (List AV)} {x : List AV} {z : Nat} {k : Rk} (hg : sget s.σ r = some (.arr et sz1 es)) (hi : es[i]? = some x) (hx : x[off]? = some (.ro z [] k)) (hk : k ≠ .any)
    (h : ∀ q, Fresh q s.σ → ∃ σ', SSet s.σ r (.arr et sz1 es) r (.arr et sz1 (es.set i (x.set off (.own q 0 0)))) σ' ∧ SW P n ks c ⟨s.fr, (q, .arr e sz []) :: σ'⟩ Q) : SW P n ks c s Q := by
  intro M F N a w hr
  have hE : ER (addM M N .virt) F w N (.arr e sz []) := ⟨h0, fun x hx => by simp at hx, .inl ⟨addM_new _, rfl⟩⟩
  obtain ⟨r1, e1, n1⟩ := hr.new_ (w' := w) .virt (.arr e sz []) (fun _ _ => rfl) ⟨rfl, rfl, rfl⟩ (Nat.le_refl _) (fun g hg => by simp [blkOf, addM_new] at hg) hE
  obtain ⟨σ', hs, hK⟩ := h N n1
  have hmem : ∀ p ∈ (N, Ent.arr e sz []) :: σ', ∃ x, (p.1, x) ∈ (N, Ent.arr e sz []) :: s.σ := by
    intro p hp
    rcases List.mem_cons.1 hp with rfl | hp
    · exact ⟨_, List.mem_cons_self⟩
    · rcases List.mem_cons.1 (hs.sub p hp) with rfl | hp
      · exact ⟨_, List.mem_cons_of_mem _ (sget_mem hg)⟩
      · exact ⟨_, List.mem_cons_of_mem _ (mem_sdrop hp).1⟩
  have hr2 : Rel (addM M N .virt) F (N + 1) n ⟨s.fr, (N, .arr e sz []) :: σ'⟩ a w := by
    refine ⟨r1.size, r1.defers, r1.fr, r1.st.retold fun p hp => ⟨hmem p hp, ?_⟩⟩
    rcases List.mem_cons.1 hp with rfl | hp
    · exact hE
    · rcases List.mem_cons.1 (hs.sub p hp) with rfl | hp
      · obtain ⟨q0, q1, q2⟩ := r1.st.ent _ (List.mem_cons_of_mem _ (sget_mem hg))
        refine ⟨q0, ?_, ?_⟩
        · intro y hy
          rcases List.mem_or_eq_of_mem_set hy with hy | rfl
          · exact q1 y hy
          · obtain ⟨m1, m2⟩ := q1 x (List.mem_of_getElem? hi)
            refine ⟨by rw [List.length_set]; exact m1, fun b hb => ?_⟩
            rcases List.mem_or_eq_of_mem_set hb with hb | rfl
            · exact m2 b hb
            · rfl
        · rcases q2 with ⟨-, rfl⟩ | ⟨g, c, vs, h1, h2, h3, h4, h5, h6⟩
          · simp at hi
          · refine .inr ⟨g, c, vs, h1, h2, h3, by rw [List.length_set]; exact h4, h5, fun i' y j b u hj hb hu => ?_⟩
            by_cases hii : i = i'
            · subst hii
              have hlt : i < es.length := (List.getElem?_eq_some_iff.1 hi).1
              rw [List.getElem?_set_self hlt] at hj
              obtain rfl := Option.some.inj hj
              by_cases hjo : off = j
              · subst hjo
                have hlt2 : off < x.length := (List.getElem?_eq_some_iff.1 hx).1
                rw [List.getElem?_set_self hlt2] at hb
                obtain rfl := Option.some.inj hb
                have hv := h6 i x off _ u hi hx hu
                cases hv with
                | @ro _ _ b o _ cap us hb hs hc hrr hle hm hf hn =>
                  cases k with
                  | nil => exact absurd rfl hn
                  | full => have := hf rfl; simp at this; subst this; exact .own0
                  | any => exact absurd rfl hk
                | ro0 hm hA hf hn =>
                  cases k with
                  | nil => obtain rfl := hn rfl; obtain rfl := hA rfl; exact .own0
                  | full => obtain rfl := hf rfl; exact .own0
                  | any => exact absurd rfl hk
              · rw [List.getElem?_set_ne hjo] at hb
                exact h6 i x j b u hi hb hu
            · rw [List.getElem?_set_ne hii] at hj
              exact h6 i' y j b u hj hb hu
      · exact r1.st.ent p (List.mem_cons_of_mem _ (mem_sdrop hp).1)
  refine wp_mono (hK _ F _ a w hr2) ?_
  rintro e' a' w' ⟨M', F', N', s2, h1, h2, h3⟩
  exact ⟨M', F', N', s2, h1, (e1.trans (Ext.retold hmem)).trans h2, h3⟩
/-- an own row of one element whose first cell is an own row, both told by value -/
theorem bor_one2 {σ : Sto} {q p : Nat} {et et' : TypeId} {sz' n : Nat} {es' : List (List AV)} {x : AV} (hx : x.cell = true) (hg : sget σ q = some (.arr et 2 [[.own p 0 n, x]])) (hp : sget σ p = some (.arr et' sz' es')) (hn : n = es'.length) : Bor σ [q, p] (.own q 0 1) (.ro 2 [[.ro sz' es' .any, x]] .any) := by
  refine .ownR (fun i j => if j = 0 then .own p 0 n else x) List.mem_cons_self hg (by simp) rfl (fun y hy => ?_) (fun i e j a h1 h2 => ?_) (fun i e j a h1 h2 => ?_)
  · obtain rfl := List.mem_singleton.1 hy
    exact ⟨rfl, fun a ha => by
      simp only [List.mem_cons, List.not_mem_nil, or_false] at ha
      rcases ha with rfl | rfl
      · rfl
      · exact hx⟩
  · match i with
    | 0 =>
      cases h1
      match j with
      | 0 => cases h2; rfl
      | 1 => cases h2; rfl
      | _ + 2 => cases h2
    | _ + 1 => cases h1
  · match i with
    | 0 =>
      cases h1
      match j with
      | 0 =>
        cases h2
        have := Bor.own (σ := σ) (ts := [q, p]) (t := p) (off := 0) (len := n) (List.mem_cons_of_mem _ List.mem_cons_self) hp (by omega)
        rw [hn, List.drop_zero, List.take_length] at this
        rw [if_pos rfl, hn]
        exact this
      | 1 => cases h2; exact .refl _
      | _ + 2 => cases h2
    | _ + 1 => cases h1
/-- two rows told by value in a variable -/
theorem sgo_fzb2 {fr : Fr} {σ σ1 σ2 σ' : Sto} {r q p : Nat} {bt : TypeId} {cs cs' : List AV} {e e2 : Ent} (hs : SSet σ r (.box bt cs) r (.box bt cs') σ1) (hd : SDel σ1 q e σ2) (hd2 : SDel σ2 p e2 σ') (hb : BorL σ [q, p] cs cs') : SGo ⟨fr, σ⟩ ⟨fr, σ'⟩ := by
  refine sgo_freeze [q, p] (fun i x' hi => ⟨x', hi, .refl _⟩) (fun y hy => ?_)
  obtain ⟨h1, h2⟩ := hd2.sub y hy
  obtain ⟨h3, h4⟩ := hd.sub y h1
  refine ⟨by simp; exact ⟨h4, h2⟩, ?_⟩
  rcases List.mem_cons.1 (hs.sub y h3) with rfl | h
  · exact ⟨_, sget_mem hs.get, .box (bagg hb)⟩
  · exact ⟨y.2, (mem_sdrop h).1, .refl _⟩
end Go.Proofs.YtfihcehdoikfkaaGreat
/-
  Locals stand as the fewest runs, and come out one by one.
-/
namespace Go.Proofs.YtfihcehdoikfkaaGreat
open Go.RowKit Go.ChangeShapes Go.WideShapes Go.ChangeAt Go.Deep
attribute [local irreducible] SW RS RD AThen ABlock
/-- the module that adds two, with its code in a row of its own -/
def encS (q : Nat) : List AV := [.ro 2 (smallM.ty.map encFT) .any, .ro 3 [] .any, .ro 1 (smallM.fn.map encI) .any, .bool false, .int .i64 0, .int .i64 0, .bool false, .int .i64 0, .int .i64 0, .ro 3 [] .any, .ro 2 (smallM.ex.map encEx) .any, .ro 2 [] .any, .own q 0 1, .ro 2 [] .any]
theorem law_small2 : SCall Tryz.prog 19 [] [] (fun y σ => ∃ q, y = .agg (encS q) ∧ σ = [(q, .arr 54 2 [[.ro 0 [] .nil, .ro 4 (smallIs.map (iv .any)) .any]])]) := by
  refine scall_of (n := 15) (ks := [0]) Tryz.func19 rfl rfl (Nat.le_of_ble_eq_true rfl) ?_
  refine sq3 ?_
  apply al; rfl; (exact zcT); refine freshT fun r0 h0 => ?_; repeat rcases h0 with ⟨_, h0⟩
  refine leT ?_
  refine sq3 ?_
  refine z1 ?_; refine freshT fun r1 h1 => ?_; repeat rcases h1 with ⟨_, h1⟩
  refine fzv (j := 1) rfl sdelT (bor_own sgT (by simp)) ?_
  refine z1 ?_; refine freshT fun r2 h2 => ?_; repeat rcases h2 with ⟨_, h2⟩
  refine fzv (j := 2) rfl sdelT (bor_own sgT (by simp)) ?_
  refine z93 ?_
  refine z1 ?_; refine freshT fun r4 h4 => ?_; repeat rcases h4 with ⟨_, h4⟩
  refine fzv (j := 4) rfl sdelT (bor_own sgT (by simp)) ?_
  refine z1 ?_; refine freshT fun r5 h5 => ?_; repeat rcases h5 with ⟨_, h5⟩
  refine fzv (j := 5) rfl sdelT (bor_own sgT (by simp)) ?_
  refine z93 ?_
  refine z1 ?_; refine freshT fun r7 h7 => ?_; repeat rcases h7 with ⟨_, h7⟩
  refine fzv (j := 7) rfl sdelT (bor_own sgT (by simp)) ?_
  refine z93 ?_
  refine z93 ?_
  refine z93 ?_
  refine z1 ?_; refine freshT fun r11 h11 => ?_; repeat rcases h11 with ⟨_, h11⟩
  refine fzv (j := 11) rfl sdelT (bor_own sgT (by simp)) ?_
  refine rs_go (sgo_vle (j := 11) rfl (vle_nl (l := smallIs) (by simp [smallIs]))) ?_
  refine z93 ?_
  refine z1 ?_; refine freshT fun r13 h13 => ?_; repeat rcases h13 with ⟨_, h13⟩
  refine z93 ?_
  apply stp; rfl; rfl; rfl; rfl; (exact sputT)
  refine leT ?_
  refine an ?_
  refine sw_go (sgo_leb (r := r0) (cs' := encS r13) ssetT (.cons (.refl _) (.cons (.le VLe.empty) (.cons (.refl _) (.cons (.refl _) (.cons (.refl _) (.cons (.refl _) (.cons (.refl _) (.cons (.refl _) (.cons (.refl _) (.cons (.le VLe.empty) (.cons (.refl _) (.cons (.le VLe.empty) (.cons (.refl _) (.cons (.le VLe.empty) .nil))))))))))))))) ?_
  refine ctlT ?_
  apply aend; exact resT
  · exact ⟨r13, rfl, rfl⟩
  · exact stleT
/-! ### what is written -/
/-- the module with these locals -/
def locM (l : List Int) : Md := { smallM with co := [⟨l, smallIs⟩] }
def okL (l : List Int) : Prop := l.length ≤ 30 ∧ ∀ k ∈ l, k = 1 ∨ k = 2
theorem ok_next {l : List Int} (h : okL l) (hl : l.length < 30) (w : Int) : okL (l ++ [1 + Int.tmod (Int.tmod w 2 + 2) 2]) := by
  refine ⟨by simp; omega, fun k hk => ?_⟩
  rcases List.mem_append.1 hk with hk | hk
  · exact h.2 k hk
  · obtain rfl := List.mem_singleton.1 hk
    have h1 := Int.tmod_lt_of_pos w (show (0 : Int) < 2 by decide)
    have h2 : -2 < Int.tmod w 2 := by
      have := Int.neg_tmod w 2
      have h3 := Int.tmod_lt_of_pos (-w) (show (0 : Int) < 2 by decide)
      omega
    have h4 := Int.tmod_lt_of_pos (Int.tmod w 2 + 2) (show (0 : Int) < 2 by decide)
    have h5 := Int.tmod_nonneg (a := Int.tmod w 2 + 2) 2 (by omega)
    omega
theorem loc_wo (l : List Int) : (locM l).WO := by
  obtain ⟨⟨h1, h2, h3, h4, h5⟩, h6, h7⟩ := small_wo
  refine ⟨⟨h1, h2, ?_, h4, h5⟩, ?_, h7⟩
  · intro x hx
    obtain rfl : x = ⟨l, smallIs⟩ := by simpa [locM] using hx
    show smallIs.length ≤ _
    decide
  · intro x hx
    obtain rfl : x = ⟨l, smallIs⟩ := by simpa [locM] using hx
    exact h6 ⟨[], smallIs⟩ (by simp [smallM, smallIs])
theorem loc_kd {l : List Int} (h : okL l) : ∀ k ∈ l, kdN k = true := fun k hk => by
  rcases h.2 k hk with rfl | rfl <;> decide
theorem loc_a {l : List Int} (h : okL l) : mayA (locM l) = true := by
  have h1 : allN l 32 kdN = true := by
    unfold allN
    rw [List.all_eq_true.2 (loc_kd h)]
    have := h.1
    simp
    omega
  have h2 : codN ⟨l, smallIs⟩ = true := by
    unfold codN
    rw [h1]
    show (okN (opsOf smallIs) && true && allN smallIs 300 mayN) = true
    decide
  unfold mayA
  rw [show allN (locM l).co 16 codN = true by simp [locM, allN, h2]]
  show ((true && true) && listsN smallM && limN li0 16 1000 && limN li0 16 65536) = true
  decide
theorem loc_len {l : List Int} (h : okL l) : (writB (locM l)).length ≤ 8000 := by
  have h1 : putN ⟨32, 0, 0, []⟩ = [32, 0] := by
    have f : formN 32 = 3 := by decide
    simp [putN, putT, f, uB_lo]
  have h2 : putN ⟨32, 1, 0, []⟩ = [32, 1] := by
    have f : formN 32 = 3 := by decide
    simp [putN, putT, f, uB_lo]
  have h3 : putN ⟨106, 0, 0, []⟩ = [106] := by
    have f : formN 106 = 1 := by decide
    simp [putN, putT, f]
  have h4 : (putL smallIs).length = 6 := by simp [putL, smallIs, h1, h2, h3]
  have h5 := (runs_len l (by have := h.1; omega)).2.2
  have p1 : (secB 1 smallM.ty ftB).length = 9 := by simp [smallM, secB, vecB, uB_lo, ftB, kB]
  have p3 : (secB 3 smallM.fn numB).length = 4 := by simp [smallM, secB, vecB, uB_lo, numB]
  have p7 : (secB 7 smallM.ex exB).length = 9 := by simp [smallM, secB, vecB, uB_lo, exB, txtB, numB]
  have pc : (secB 10 [(⟨l, smallIs⟩ : Co)] codB).length ≤ 200 := by
    generalize hV : vecB (runsN l) runB = V at h5
    have e1 : (codB ⟨l, smallIs⟩).length ≤ 5 + (V.length + 6) := by
      unfold codB
      dsimp only
      rw [hV, List.length_append, List.length_append, h4]
      have := uB_len 4 (V.length + 6) (by omega)
      omega
    have e2 : (vecB [(⟨l, smallIs⟩ : Co)] codB).length = 1 + (codB ⟨l, smallIs⟩).length := by simp [vecB, uB_lo]; omega
    have e3 := uB_len 4 (vecB [(⟨l, smallIs⟩ : Co)] codB).length (by omega)
    unfold secB
    simp only [List.isEmpty_cons, Bool.false_eq_true, if_false, List.length_cons, List.length_append]
    omega
  have hw : (writB (locM l)).length = 8 + (secB 1 smallM.ty ftB).length + (secB 3 smallM.fn numB).length + (secB 7 smallM.ex exB).length + (secB 10 [(⟨l, smallIs⟩ : Co)] codB).length := by
    unfold writB
    simp only [List.length_append]
    rfl
  omega
theorem loc_may {l : List Int} (h : okL l) : mayM (locM l) = true := by
  rw [mayM_eq, loc_a h, Bool.true_and]
  exact decide_eq_true (loc_len h)
theorem law_wasmLocals2 (l : List Int) : SCall Tryz.prog 8 [.ro 1 (l.map encI) .any] [] (fun y σ => y = .bool true ∧ σ = []) := by
  refine scall_of (n := 68) (ks := [0, 2, 3, 4, 5, 6, 7, 10, 19]) Tryz.func8 rfl rfl (Nat.le_of_ble_eq_true rfl) ?_
  refine sq7 ?_
  refine rgT ?_
  refine puA Tryz.call10 law_begun7 rfl pargsT nofT ?_
  refine sq27 ?_
  refine lo (lop_not (E rfl)) rfl ?_
  refine leT ?_
  refine sq3 ?_
  refine cw [] Tryz.call19 law_small2 rfl argsleT stleT ?_
  rintro _ σ' ⟨q, rfl, rfl⟩ h11
  unfold encS
  apply rs_sto; exact nflT
  apply al; rfl; (exact zcT); refine freshT fun r4 h4 => ?_; repeat rcases h4 with ⟨_, h4⟩
  apply stp; rfl; rfl; rfl; rfl; (exact sputT)
  refine leT ?_
  refine sq7 ?_
  refine sw_virt_arr (ks := [0, 2, 3, 4, 5, 6, 7, 10, 19]) q 0 0 3 1 (by decide) sgT rfl rfl (by decide) fun p0 hp0 => ?_
  simp only [fresh_cons, fresh_nil, and_true] at hp0
  apply Exists.intro; apply And.intro; (exact ssetT)
  refine lp (β := List Int × Nat) (fun b => ⟨[(0, .ro 1 (l.map encI) .any), (4, .ptr r4 0), (5, .int .i64 b.1.length)], [(r4, .box 33 (encS q)), (q, .arr 54 2 [[.own b.2 0 b.1.length, .ro 4 (smallIs.map (iv .any)) .any]]), (b.2, .arr 3 1 (b.1.map encI))]⟩) (fun b => okL b.1 ∧ Nq b.2 r4 ∧ Nq b.2 q) (fun b => 30 - b.1.length) ([], p0) sgoT ⟨⟨Nat.zero_le _, by simp⟩, by show Nq p0 r4; (exact nqT), by show Nq p0 q; (exact nqT)⟩ ?_
  rintro ⟨L, p⟩ ⟨hL, e1, e2⟩
  dsimp only [encS] at hL e1 e2 ⊢
  refine sq8 ?_
  refine z14 ?_
  refine lo (lop_lss (E rfl) (E rfl)) rfl ?_
  refine sq9 ?_
  refine z162 ?_
  refine sq106 ?_
  refine sw_cond rfl (fun g6 => ?_) (fun g6 => ?_)
  · have hlt : L.length < l.length ∧ L.length < 30 := ite_lt g6
    obtain ⟨w, hw⟩ : ∃ w, l[L.length]? = some w := ⟨_, List.getElem?_eq_getElem hlt.1⟩
    have hb1 : -2 < w.tmod 2 ∧ w.tmod 2 < 2 := ⟨Int.lt_tmod_of_pos w (by decide), Int.tmod_lt_of_pos w (by decide)⟩
    have hb2 : 0 ≤ (w.tmod 2 + 2).tmod 2 ∧ (w.tmod 2 + 2).tmod 2 < 2 := ⟨Int.tmod_nonneg _ (by omega), Int.tmod_lt_of_pos _ (by decide)⟩
    refine ctlT ?_
    refine rgD [(0, true), (1, true), (2, true), (3, true), (4, true), (5, true), (6, true), (7, true), (8, true), (9, true), (10, true), (11, true), (12, true), (13, true), (14, true), (15, false), (16, false), (17, true), (18, true), (19, false)] ?_
    refine sq20 ?_
    refine sq20 ?_
    refine z56 ?_
    refine sq74 ?_
    refine sq40 ?_
    refine z57 ?_
    refine dlo rfl (lop_rem (E rfl) (E rfl) (fun _ => by first | decide | omega)) rfl ?_
    refine z144 ?_
    refine dlo rfl (lop_rem (E rfl) (E rfl) (fun _ => by first | decide | omega)) rfl ?_
    refine z144 ?_
    refine z97 ?_; refine freshT fun r37 h37 => ?_; repeat rcases h37 with ⟨_, h37⟩
    refine dapA rfl ((L ++ [1 + Int.tmod (Int.tmod w 2 + 2) 2]).map encI) (L ++ [1 + Int.tmod (Int.tmod w 2 + 2) 2]).length ?_
    refine apnT fun r38 h38 => ?_; repeat rcases h38 with ⟨_, h38⟩
    refine z56 ?_
    refine z161 ?_
    apply dsto; rfl; infer_instance; rfl; rfl; rfl; rfl; (exact ssetT); (exact atT); (exact putT_); rfl; (exact hbtT)
    refine deT ?_
    refine sq45 ?_
    refine ⟨(L ++ [1 + Int.tmod (Int.tmod w 2 + 2) 2], r38), ⟨ok_next hL hlt.2 w, by show Nq r38 r4; (exact nqT), by show Nq r38 q; (exact nqT)⟩, by simp; omega, ?_⟩
    dsimp only [encS]
    exact sgoT
  refine sw_go (sgo_fzb2 (r := r4) (q := q) (p := p) ssetT sdelT sdelT (.cons (.refl _) (.cons (.refl _) (.cons (.refl _) (.cons (.refl _) (.cons (.refl _) (.cons (.refl _) (.cons (.refl _) (.cons (.refl _) (.cons (.refl _) (.cons (.refl _) (.cons (.refl _) (.cons (.refl _) (.cons (bor_one2 rfl sgT sgT (by simp)) (.cons (.refl _) .nil))))))))))))))) ?_
  refine sw_go (sgo_leb (r := r4) (cs' := encMd (locM L)) ssetT (.cons (.refl _) (.cons (.refl _) (.cons (.refl _) (.cons (.refl _) (.cons (.refl _) (.cons (.refl _) (.cons (.refl _) (.cons (.refl _) (.cons (.refl _) (.cons (.refl _) (.cons (.refl _) (.cons (.refl _) (.cons (.refl _) (.cons (.refl _) .nil))))))))))))))) ?_
  have hen : encB (locM L) = writB (locM L) := if_pos (loc_may hL)
  have wd := wasm_decode (encB (locM L)) (by rw [hen]; have := loc_len hL; omega) (encB_lt (loc_wo L))
  rw [show decM (encB (locM L)) = (locM L, 0) by rw [hen]; exact dec_back (loc_may hL) (loc_wo L).ok] at wd
  have hl1 : (locM L).co.length = 1 := rfl
  refine sq78 ?_
  refine clA Tryz.call13 (wasm_encode (locM L) (loc_wo L)) rfl bargsT noT ?_
  rintro _ σ' ⟨q43, rfl, rfl⟩ h43
  replace h43 := lnewT h43; repeat rcases h43 with ⟨_, h43⟩
  apply rs_sto; exact nflT
  refine fzv (j := 43) rfl sdelT (bor_own sgT (by simp)) ?_
  refine cw [] Tryz.call17 wd rfl argsleT stleT ?_
  rintro _ σ' ⟨rfl, rfl⟩ h44
  apply rs_sto; exact nflT
  refine sq24 ?_
  apply al; rfl; (exact zcT); refine freshT fun r6 h6 => ?_; repeat rcases h6 with ⟨_, h6⟩
  apply stp; rfl; rfl; rfl; rfl; (exact sputT)
  refine sq2 ?_
  refine rgD [(0, true), (1, true), (2, true), (3, true), (4, true), (5, true), (6, true), (7, true), (8, true), (9, true), (10, true), (11, true), (12, true), (13, true), (14, true), (15, true), (16, true), (17, true), (18, true), (19, false), (20, true), (21, true)] ?_
  refine dlo rfl (lop_move (E rfl)) rfl ?_
  refine z79 ?_
  refine sq98 ?_
  refine z169 ?_
  first | refine dln rfl rfl rfl rfl rfl ?_ | (first | refine dly rfl rfl rfl (lop_len_map (by first | exact W rfl id | exact E rfl)) rfl ?_ | refine dly rfl rfl rfl (lop_len_ro (by first | exact W rfl id | exact E rfl)) rfl ?_ | refine dly rfl rfl rfl (lop_len_own (by first | exact W rfl id | exact E rfl)) rfl ?_) | refine dlg rfl rfl rfl (lop_len_map (by first | exact W rfl id | exact E rfl)) rfl ?_ | refine dlg rfl rfl rfl (lop_len_ro (by first | exact W rfl id | exact E rfl)) rfl ?_ | refine dlg rfl rfl rfl (lop_len_own (by first | exact W rfl id | exact E rfl)) rfl ?_
  rw [show (locM L).co.length = 1 from rfl]
  first | refine dln rfl rfl rfl rfl rfl ?_ | (refine dly rfl rfl rfl (lop_eql (by first | exact W rfl id | exact E rfl) (E rfl)) rfl ?_) | refine dlg rfl rfl rfl (lop_eql (by first | exact W rfl id | exact E rfl) (E rfl)) rfl ?_
  refine z160 ?_
  refine sq98 ?_
  refine z169 ?_
  first | refine dln rfl rfl rfl rfl rfl ?_ | (first | refine dly rfl rfl rfl (lop_index_ro (by first | exact W rfl id | exact E rfl) (E rfl) (fun hc => by (simp only [List.length_map]; omega))) rfl ?_ | refine dly rfl rfl rfl (lop_index_own0 (by first | exact W rfl id | exact E rfl) sgT (E rfl) (fun hc => by omega)) rfl ?_ | refine dly rfl rfl rfl (lop_index_own (by first | exact W rfl id | exact E rfl) sgT (E rfl) (fun hc => by omega)) rfl ?_) | refine dlg rfl rfl rfl (lop_index_ro (by first | exact W rfl id | exact E rfl) (E rfl) (fun hc => by (try simp at hc) <;> (simp only [List.length_map]; omega))) rfl ?_ | refine dlg rfl rfl rfl (lop_index_own0 (by first | exact W rfl id | exact E rfl) sgT (E rfl) (fun hc => by (try simp at hc) <;> omega)) rfl ?_ | refine dlg rfl rfl rfl (lop_index_own (by first | exact W rfl id | exact E rfl) sgT (E rfl) (fun hc => by (try simp at hc) <;> omega)) rfl ?_
  refine z170 ?_
  refine z158 ?_
  refine z168 ?_
  refine z169 ?_
  first | refine dln rfl rfl rfl rfl rfl ?_ | (first | refine dly rfl rfl rfl (lop_index_ro (by first | exact W rfl id | exact E rfl) (E rfl) (fun hc => by (simp only [List.length_map]; omega))) rfl ?_ | refine dly rfl rfl rfl (lop_index_own0 (by first | exact W rfl id | exact E rfl) sgT (E rfl) (fun hc => by omega)) rfl ?_ | refine dly rfl rfl rfl (lop_index_own (by first | exact W rfl id | exact E rfl) sgT (E rfl) (fun hc => by omega)) rfl ?_) | refine dlg rfl rfl rfl (lop_index_ro (by first | exact W rfl id | exact E rfl) (E rfl) (fun hc => by (try simp at hc) <;> (simp only [List.length_map]; omega))) rfl ?_ | refine dlg rfl rfl rfl (lop_index_own0 (by first | exact W rfl id | exact E rfl) sgT (E rfl) (fun hc => by (try simp at hc) <;> omega)) rfl ?_ | refine dlg rfl rfl rfl (lop_index_own (by first | exact W rfl id | exact E rfl) sgT (E rfl) (fun hc => by (try simp at hc) <;> omega)) rfl ?_
  refine z170 ?_
  refine z158 ?_
  refine dpugA rfl rfl rfl Tryz.call20 (fun _ => (ref_eqInts L L)) rfl pargsT nofT ?_
  refine z160 ?_
  refine sq68 ?_
  apply aend; exact resT
  · exact ⟨by rw [show decide (L = L) = true from decide_eq_true rfl]; rfl, rfl⟩
  · exact stleT
theorem law_wasmLocals3 (l : List Int) : SCall Tryz.prog 8 [.ro 1 (l.map encI) .any] [] (fun y _ => y = .bool true) := (law_wasmLocals2 l).mono fun _ _ h => h.1
end Go.Proofs.YtfihcehdoikfkaaGreat
