import Derived.Test.YtfihcehdoikfkaaGreatSB4
import Derived.ChangeKeysEq
import Derived.Laws.StructEq
set_option linter.unusedSimpArgs false
set_option linter.unusedVariables false
set_option maxRecDepth 100000
set_option maxHeartbeats 4000000
/-
  A module is read: what the parts that were read are like.
-/
namespace Go.Proofs.YtfihcehdoikfkaaGreat
open Go.RowKit Go.ChangeShapes Go.WideShapes Go.ChangeAt Go.Deep
attribute [local irreducible] SW RS RD AThen ABlock
theorem ro_str {s : St} (h : SOk s) : StrOk (roN s).1 := by
  have h1 := nu_ok s h
  unfold roN
  dsimp only
  split
  · exact ⟨by simp, by simp⟩
  · exact ⟨by have := h1.1; simp; omega, fun c hc => h1.2 c (List.mem_of_mem_take hc)⟩
theorem ls_all {α : Type} {get : St → α × St} {p : α → Prop} (hk : Kp get) (hp : ∀ s, SOk s → p (get s).1) : ∀ n s, SOk s → (∀ x ∈ (lsN get n s).1, p x) ∧ (lsN get n s).1.length ≤ n
  | 0, s, h => ⟨by simp [lsN], by simp [lsN]⟩
  | n + 1, s, h => by
    rw [lsN]
    split
    · exact ⟨by simp, by simp⟩
    · obtain ⟨h1, h2⟩ := ls_all hk hp n _ (hk s h)
      refine ⟨fun x hx => ?_, by simpa using h2⟩
      rcases List.mem_cons.1 hx with rfl | hx
      · exact hp s h
      · exact h1 x hx
theorem li_all {α : Type} {get : St → α × St} {p : α → Prop} (hk : Kp get) (hp : ∀ s, SOk s → p (get s).1) {s : St} (h : SOk s) : (∀ x ∈ (liN get s).1, p x) ∧ (liN get s).1.length ≤ 4294967296 := by
  obtain ⟨h1, h2⟩ := ls_all hk hp (nuN s).1 _ (nu_ok s h)
  exact ⟨h1, Nat.le_trans h2 (Nat.le_of_lt (nu_bd s))⟩
theorem ins0_ok : ins0.Ok := ⟨by decide, by decide, by decide, by decide, by decide⟩
theorem getP_okA {l : List Nat} (hlt : ∀ x ∈ l, x < 256) : (getP l).1.Ok := by
  by_cases h : (getP l).2.2 = 0
  · exact (getP_sound hlt h).1
  · have hf : ∀ x n e, (fin x n e).2.2 ≠ 0 → (fin x n e).1 = ins0 := fun x n e h => by
      unfold fin at h ⊢
      split
      · rfl
      · next hh => rw [if_neg hh] at h; exact absurd rfl h
    have : (getP l).1 = ins0 := by
      unfold getP at h ⊢
      split
      · rfl
      · next h1 =>
        rw [if_neg h1] at h
        split
        · rfl
        · next h2 =>
          rw [if_neg h2] at h
          unfold getT at h ⊢
          dsimp only at h ⊢
          repeat' split
          all_goals (first | rfl | skip)
          all_goals apply hf
          all_goals simp_all
    rw [this]
    exact ins0_ok
theorem co_vals {s : St} (h : SOk s) : -9223372036854775808 ≤ (coN s).1.2 ∧ (coN s).1.2 ≤ 9223372036854775807 := by
  have h1 := getP_okA h.2
  unfold coN
  dsimp only
  split
  · exact ⟨h1.2.2.1, h1.2.2.2.1⟩
  · exact ⟨h1.2.2.1, h1.2.2.2.1⟩
theorem cd_vals {s : St} (h : SOk s) : (cdN s).1.bd.length ≤ 100000 ∧ ∀ x ∈ (cdN s).1.bd, x.Ok := by
  have k1 := ru_ok _ (nu_ok s h)
  have hC : cdN s = if (ruN (nuN s).2).2.2 = true then (⟨(ruN (nuN s).2).1, []⟩, (ruN (nuN s).2).2) else (⟨(ruN (nuN s).2).1, (getC (ruN (nuN s).2).2.1).1⟩, skN (ruN (nuN s).2).2 (getC (ruN (nuN s).2).2.1).2.1 ((getC (ruN (nuN s).2).2.1).2.2 == 0)) := rfl
  rw [hC]
  split
  · exact ⟨by simp, by simp⟩
  · have k2 := k1.2
    generalize (ruN (nuN s).2).2.1 = l at k2 ⊢
    by_cases he : (getC l).2.2 = 0
    · obtain ⟨h1, h2, h3⟩ := getC_sound k2 he
      refine ⟨?_, fun x hx => (h3 x hx).1⟩
      have := okN_len h1
      simp only [opsOf, List.length_map] at this
      dsimp only
      omega
    · rw [(getC_err l he).1]
      exact ⟨by simp, by simp⟩
theorem se_wo (no : Nat) {m : Md} (h : m.WO) {s : St} (hs : SOk s) : (seN no m s).1.WO := by
  obtain ⟨⟨h1, h2, h3, h4, h7⟩, h5, h6⟩ := h
  unfold seN
  split
  · exact ⟨⟨h1, h2, h3, h4, h7⟩, h5, h6⟩
  split
  · have := li_all (p := fun x : Im => StrOk x.mod ∧ StrOk x.nm) im_ok (fun s hs => ⟨ro_str hs, ro_str (ro_ok s hs)⟩) hs
    exact ⟨⟨this.1, h2, h3, this.2, h7⟩, h5, h6⟩
  split
  · exact ⟨⟨h1, h2, h3, h4, h7⟩, h5, h6⟩
  split
  · exact ⟨⟨h1, h2, h3, h4, h7⟩, h5, h6⟩
  split
  · exact ⟨⟨h1, h2, h3, h4, h7⟩, h5, h6⟩
  split
  · have := li_all (p := fun g : Gl => -9223372036854775808 ≤ g.n ∧ g.n ≤ 9223372036854775807) gl_ok (fun s hs => co_vals (by_ok _ (ki_ok s hs))) hs
    exact ⟨⟨h1, h2, h3, h4, h7⟩, h5, this.1⟩
  split
  · have := li_all (p := fun x : Ex => StrOk x.nm) ex_ok (fun s hs => ro_str hs) hs
    exact ⟨⟨h1, this.1, h3, h4, h7⟩, h5, h6⟩
  split
  · exact ⟨⟨h1, h2, h3, h4, h7⟩, h5, h6⟩
  split
  · have := li_all (p := fun c : Co => c.bd.length ≤ 100000 ∧ ∀ x ∈ c.bd, x.Ok) cd_ok (fun s hs => cd_vals hs) hs
    exact ⟨⟨h1, h2, fun c hc => (this.1 c hc).1, h4, h7⟩, fun c hc => (this.1 c hc).2, h6⟩
  split
  · have := li_all (p := fun x : Da => ∀ c ∈ x.bs, c < 256) dd_ok (fun s hs => (ro_str (pl_ok s hs)).2) hs
    exact ⟨⟨h1, h2, h3, h4, this.1⟩, h5, h6⟩
  · exact ⟨⟨h1, h2, h3, h4, h7⟩, h5, h6⟩
theorem se_ok (no : Nat) (m : Md) {s : St} (hs : SOk s) : SOk (seN no m s).2 := by
  unfold seN
  split
  · exact li_ok ty_ok s hs
  split
  · exact li_ok im_ok s hs
  split
  · exact li_ok in_ok s hs
  split
  · exact lt_ok true s hs
  split
  · exact lt_ok false s hs
  split
  · exact li_ok gl_ok s hs
  split
  · exact li_ok ex_ok s hs
  split
  · exact li_ok ee_ok s hs
  split
  · exact li_ok cd_ok s hs
  split
  · exact li_ok dd_ok s hs
  · exact hs
theorem wo0 : md0.WO := ⟨⟨by simp [md0], by simp [md0], by simp [md0], by simp [md0], by simp [md0]⟩, by simp [md0], by simp [md0]⟩
/-! ### section by section -/
theorem dn_stop {m : Md} {s : St} (h : (s.1.isEmpty || s.2) = true) : DN m s = (m, s) := by
  unfold DN
  rw [dlN, if_pos h]
theorem dn_step {m : Md} {s : St} (h : s.1 ≠ []) (hb : s.2 = false) : DN m s = DN (seN (byN s).1 m (nuN (byN s).2).2).1 (seN (byN s).1 m (nuN (byN s).2).2).2 ∧ (seN (byN s).1 m (nuN (byN s).2).2).2.1.length < s.1.length := by
  have h1 : (seN (byN s).1 m (nuN (byN s).2).2).2.1.length < s.1.length := Nat.lt_of_le_of_lt (se_ni _ _ _) (Nat.lt_of_le_of_lt (nu_ni _) (by_lt s h hb))
  refine ⟨?_, h1⟩
  unfold DN
  rw [dlN, if_neg (by rw [hb]; simp [h])]
  exact dl_fuel _ _ _ _ h1 (Nat.lt_succ_self _)
theorem prs_dn (b : List Nat) : prsN b = DN md0 (skN (b, !decide (b.take 8 = headB)) 8 true) := by
  unfold prsN DN
  refine dl_fuel _ _ _ _ ?_ (Nat.lt_succ_self _)
  exact Nat.lt_succ_of_le (sk_ni _ _ _)
/-! ### strings -/
theorem lib_hasPrefixL (bs ps : List Nat) (h1 : bs.length ≤ 1000000) (h2 : ps.length ≤ 1000000) (l1 : ∀ c ∈ bs, c < 256) (l2 : ∀ c ∈ ps, c < 256) : SCall Tryz.prog 130 [.str (strU bs), .str (strU ps)] [] (fun x σ => x = .bool (decide (bs.take ps.length = ps)) ∧ σ = []) := by
  have hq : ((strU ((bs.drop 0).take (ps.length - 0))).toList == (strU ps).toList) = decide (bs.take ps.length = ps) := by
    rw [List.drop_zero, Nat.sub_zero]
    exact strU_inj (fun c hc => l1 c (List.mem_of_mem_take hc)) l2
  refine scall_of (n := 18) (ks := [0, 1, 4]) Tryz.func130 rfl rfl (Nat.le_of_ble_eq_true rfl) ?_
  refine sq7 ?_
  by_cases hl : ps.length ≤ bs.length
  · have hE : AV.bool (decide (bs.take ps.length = ps)) = AV.bool (decide (bs.take ps.length = ps)) := rfl
    refine sq1 ?_
    refine lo (lop_len_str (E rfl)) rfl ?_
    refine lo (lop_move (E rfl)) rfl ?_
    refine lo (lop_len_str (E rfl)) rfl ?_
    rw [strU_size, strU_size]
    refine lo (lop_geq (E rfl) (E rfl)) rfl ?_
    rw [decide_eq_true (show (ps.length : Int) ≤ bs.length by omega)]
    refine sq9 ?_
    refine z109 ?_
    refine z153 ?_
    rw [strU_size]
    refine z154 ?_
    refine z109 ?_
    refine z155 ?_
    rw [hq]
    refine sq28 ?_
    apply aend; exact resT
    · exact ⟨by rw [hE]; rfl, rfl⟩
    · exact stleT
  · have hE : decide (bs.take ps.length = ps) = false := decide_eq_false fun e => by have := congrArg List.length e; simp at this; omega
    refine sq1 ?_
    refine lo (lop_len_str (E rfl)) rfl ?_
    refine lo (lop_move (E rfl)) rfl ?_
    refine lo (lop_len_str (E rfl)) rfl ?_
    rw [strU_size, strU_size]
    refine lo (lop_geq (E rfl) (E rfl)) rfl ?_
    rw [decide_eq_false (show ¬ (ps.length : Int) ≤ bs.length by omega)]
    refine sq9 ?_
    refine z109 ?_
    refine z153 ?_
    refine z154 ?_
    refine z109 ?_
    refine z155 ?_
    refine sq28 ?_
    apply aend; exact resT
    · exact ⟨by rw [hE]; rfl, rfl⟩
    · exact stleT
theorem lib_hasPrefix (bs ps : List Nat) (h1 : bs.length ≤ 1000000) (h2 : ps.length ≤ 1000000) (l1 : ∀ c ∈ bs, c < 256) (l2 : ∀ c ∈ ps, c < 256) : SCall Tryz.prog 59 [.str (strU bs), .str (strU ps)] [] (fun x σ => x = .bool (decide (bs.take ps.length = ps)) ∧ σ = []) := by
  refine scall_of (n := 8) (ks := [0, 1, 4]) Tryz.func59 rfl rfl (Nat.le_of_ble_eq_true rfl) ?_
  refine sq57 ?_
  refine puA Tryz.call130 (lib_hasPrefixL bs ps h1 h2 l1 l2) rfl pargsT nofT ?_
  refine sq2 ?_
  apply aend; exact resT
  · exact ⟨rfl, rfl⟩
  · exact stleT
theorem lib_bytesEqual {k k2 : Rk} (a c : List Nat) (l1 : ∀ x ∈ a, x < 256) (l2 : ∀ x ∈ c, x < 256) : SCall Tryz.prog 64 [.ro 1 (a.map encU) k, .ro 1 (c.map encU) k2] [] (fun x σ => x = .bool (decide (a = c)) ∧ σ = []) := by
  refine scall_of (n := 10) (ks := [0, 1, 4]) Tryz.func64 rfl rfl (Nat.le_of_ble_eq_true rfl) ?_
  refine sq32 ?_
  refine z145 ?_
  refine lo (lop_move (E rfl)) rfl ?_
  refine z145 ?_
  refine lo (lop_seql (E rfl) (E rfl)) rfl ?_
  refine sq2 ?_
  apply aend; exact resT
  · exact ⟨by rw [← strU_inj l1 l2]; rfl, rfl⟩
  · exact stleT
/-
  A module is read.
-/
/-- a box of which less is told -/
theorem sgo_leb {fr : Fr} {σ σ' : Sto} {r : Nat} {bt : TypeId} {cs cs' : List AV} (hs : SSet σ r (.box bt cs) r (.box bt cs') σ') (hb : BorL σ [] cs cs') : SGo ⟨fr, σ⟩ ⟨fr, σ'⟩ := by
  refine sgo_freeze [] (fun i x' hi => ⟨x', hi, .refl _⟩) (fun p hp => ?_)
  refine ⟨by simp, ?_⟩
  rcases List.mem_cons.1 (hs.sub p hp) with rfl | h
  · exact ⟨_, sget_mem hs.get, .box (bagg hb)⟩
  · exact ⟨p.2, (mem_sdrop h).1, .refl _⟩
theorem bor_md0 {σ : Sto} {ts : List Nat} : BorL σ ts [.ro 0 [] .nil, .ro 0 [] .nil, .ro 0 [] .nil, .bool false, .int .i64 0, .int .i64 0, .bool false, .int .i64 0, .int .i64 0, .ro 0 [] .nil, .ro 0 [] .nil, .ro 0 [] .nil, .ro 0 [] .nil, .ro 0 [] .nil] (encMd md0) :=
  .cons (.le VLe.empty) (.cons (.le VLe.empty) (.cons (.le VLe.empty) (.cons (.refl _) (.cons (.refl _) (.cons (.refl _) (.cons (.refl _) (.cons (.refl _) (.cons (.refl _) (.cons (.le VLe.empty) (.cons (.le VLe.empty) (.cons (.le VLe.empty) (.cons (.le VLe.empty) (.cons (.le VLe.empty) .nil)))))))))))))
theorem prs_nil : (prsN []).2.2 = true := by decide
theorem writ_ne (m : Md) : writB m ≠ [] := by
  intro e
  have := congrArg List.length e
  unfold writB at this
  simp [headB] at this
theorem dec_err {b : List Nat} {m : Md} {z : Bool} (h80 : ¬ 8000 < b.length) (hB : (prsN b).2.2 = false) (hM : (prsN b).1 = m) (hz : z = true → (encB m).map encU = []) (hbn : b ≠ []) (g : (if z = true then true else !decide (encB m = b)) = true) : decM b = (md0, 1) := by
  unfold decM
  rw [if_neg h80, if_neg (by rw [hB]; simp), hM, if_neg]
  rintro ⟨e1, e2⟩
  have e3 : encB m = b := by unfold encB; rw [if_pos e1, e2]
  rw [e3] at g hz
  cases z with
  | true => exact hbn (by simpa using hz rfl)
  | false => simp at g
theorem dec_fine {b : List Nat} {m : Md} {z : Bool} (h80 : ¬ 8000 < b.length) (hB : (prsN b).2.2 = false) (hM : (prsN b).1 = m) (hbn : b ≠ []) (g : (if z = true then true else !decide (encB m = b)) = false) : decM b = (m, 0) := by
  have hb : encB m = b := by cases z with
    | true => simp at g
    | false => simpa using g
  have hy : mayM m = true := by
    cases hh : mayM m with
    | true => rfl
    | false => unfold encB at hb; rw [hh] at hb; exact absurd hb.symm hbn
  unfold encB at hb
  rw [if_pos hy] at hb
  unfold decM
  rw [if_neg h80, if_neg (by rw [hB]; simp), hM, if_pos ⟨hy, hb⟩]
/-! ### what is written are bytes -/
theorem ltA {a c : List Nat} (h1 : ∀ x ∈ a, x < 256) (h2 : ∀ x ∈ c, x < 256) : ∀ x ∈ a ++ c, x < 256 := fun x hx => (List.mem_append.1 hx).elim (h1 x) (h2 x)
theorem vec_lt {α : Type} {l : List α} {pt : α → List Nat} (h : ∀ x ∈ l, ∀ c ∈ pt x, c < 256) : ∀ c ∈ vecB l pt, c < 256 := ltA (uB_lt _) fun c hc => by
  obtain ⟨x, hx, hc⟩ := List.mem_flatMap.1 hc
  exact h x hx c hc
theorem sec_lt {α : Type} {no : Nat} {l : List α} {pt : α → List Nat} (hno : no < 256) (h : ∀ x ∈ l, ∀ c ∈ pt x, c < 256) : ∀ c ∈ secB no l pt, c < 256 := by
  unfold secB
  split
  · simp
  · intro c hc
    rcases List.mem_cons.1 hc with rfl | hc
    · exact hno
    · exact ltA (uB_lt _) (vec_lt h) c hc
theorem kB_lt (k : Int) : ∀ c ∈ kB k, c < 256 := by unfold kB; split <;> simp
theorem con_lt {k n : Int} (hv : valN k n = true) (hn : -9223372036854775808 ≤ n ∧ n ≤ 9223372036854775807) : ∀ c ∈ conB k n, c < 256 := by
  obtain ⟨ho, hm, -⟩ := co_may hv hn
  exact ltA (putN_lt hm) (by simp)
theorem plc_lt {n : Int} (h : offN n = true) : ∀ c ∈ plcB n, c < 256 := by
  have hr : -2147483648 ≤ n ∧ n ≤ 2147483647 := by unfold offN at h; simpa using h
  intro c hc
  rcases List.mem_cons.1 hc with rfl | hc
  · decide
  · exact con_lt (k := 1) (n := n) (by unfold valN; simp; omega) (by omega) c hc
theorem lim_lt (l : Li) : ∀ c ∈ limB l, c < 256 := by
  unfold limB numB
  split
  · intro c hc
    rcases List.mem_cons.1 hc with rfl | hc
    · decide
    · exact uB_lt _ c hc
  · intro c hc
    rcases List.mem_cons.1 hc with rfl | hc
    · decide
    · exact ltA (uB_lt _) (uB_lt _) c hc
theorem txt_lt {s : List Nat} (h : nmN s = true) : ∀ c ∈ txtB s, c < 256 := ltA (uB_lt _) (bytes_txt h).2.1
theorem cod_lt {x : Co} (h : codN x = true) (hO : ∀ i ∈ x.bd, i.Ok) : ∀ c ∈ codB x, c < 256 := by
  unfold codN at h
  simp only [Bool.and_eq_true] at h
  refine ltA (uB_lt _) (ltA (vec_lt fun r _ => ltA (uB_lt _) (kB_lt _)) (putL_lt fun i hi => ⟨hO i hi, (all_of h.2).2 i hi⟩))
theorem writ_lt {m : Md} (h : mayA m = true) (hw : m.WO) : ∀ c ∈ writB m, c < 256 := by
  obtain ⟨hw, hO1, hO2⟩ := hw
  unfold mayA at h
  simp only [Bool.and_eq_true] at h
  obtain ⟨⟨⟨⟨-, hco⟩, hls⟩, htb⟩, hme⟩ := h
  unfold listsN at hls
  simp only [Bool.and_eq_true] at hls
  obtain ⟨⟨⟨⟨⟨⟨hty, him⟩, hfn⟩, hgl⟩, hex⟩, hel⟩, hda⟩ := hls
  unfold writB
  refine ltA (ltA (ltA (ltA (ltA (ltA (ltA (ltA (ltA (ltA ?_ ?_) ?_) ?_) ?_) ?_) ?_) ?_) ?_) ?_) ?_
  · decide
  · refine sec_lt (by decide) fun x _ c hc => ?_
    rcases List.mem_cons.1 hc with rfl | hc
    · decide
    · exact ltA (vec_lt fun k _ => kB_lt k) (vec_lt fun k _ => kB_lt k) c hc
  · refine sec_lt (by decide) fun x hx => ?_
    have := (all_of him).2 x hx
    simp only [Bool.and_eq_true] at this
    exact ltA (ltA (ltA (txt_lt this.1.1) (txt_lt this.1.2)) (by simp)) (uB_lt _)
  · exact sec_lt (by decide) fun x _ => uB_lt _
  · refine sec_lt (by decide) fun x _ c hc => ?_
    rcases List.mem_cons.1 hc with rfl | hc
    · decide
    · exact lim_lt x c hc
  · exact sec_lt (by decide) fun x _ => lim_lt x
  · refine sec_lt (by decide) fun x hx => ?_
    exact ltA (ltA (kB_lt _) (by intro c hc; rw [List.mem_singleton.1 hc]; split <;> decide)) (con_lt ((all_of hgl).2 x hx) (hO2 x hx))
  · refine sec_lt (by decide) fun x hx => ?_
    have := (all_of hex).2 x hx
    simp only [Bool.and_eq_true] at this
    exact ltA (ltA (txt_lt this.1) (by simp)) (uB_lt _)
  · refine sec_lt (by decide) fun x hx => ?_
    have := (all_of hel).2 x hx
    simp only [Bool.and_eq_true] at this
    exact ltA (plc_lt this.1) (vec_lt fun n _ => uB_lt _)
  · exact sec_lt (by decide) fun x hx => cod_lt ((all_of hco).2 x hx) (hO1 x hx)
  · refine sec_lt (by decide) fun x hx => ?_
    have := (all_of hda).2 x hx
    simp only [Bool.and_eq_true] at this
    exact ltA (ltA (plc_lt this.1) (uB_lt _)) (hw.da x hx)
theorem encB_lt {m : Md} (h : m.WO) : ∀ c ∈ encB m, c < 256 := by
  unfold encB
  split
  · next hy => exact writ_lt (may_a hy).1 h
  · simp
theorem wasm_decode (b : List Nat) (hb : b.length ≤ 100000) (hlt : ∀ c ∈ b, c < 256) : SCall Tryz.prog 17 [.ro 1 (b.map encU) .any] []
    (fun y σ => y = .tup [.agg (encMd (decM b).1), .int .i64 (decM b).2] ∧ σ = []) := by
  have hs0 : SOk (b, !decide (b.take headB.length = headB)) := ⟨hb, hlt⟩
  have k0 := sk_ok hs0 8 true
  have hP := prs_dn b
  have wsk := fun r => wr_skip r (b, !decide (b.take headB.length = headB)) hs0 8 true
  refine scall_of (n := 59) (ks := [0, 2, 3, 4, 5, 6, 7, 10, 33, 45, 56]) Tryz.func17 rfl rfl (Nat.le_of_ble_eq_true rfl) ?_
  refine sq3 ?_
  apply al; rfl; (exact zcT); refine freshT fun r2 h2 => ?_; repeat rcases h2 with ⟨_, h2⟩
  refine sq2 ?_
  refine sw_go (sgo_leb (r := r2) ssetT bor_md0) ?_
  refine sq1 ?_
  refine z14 ?_
  refine sq47 ?_
  refine sw_cond rfl (fun g1 => ?_) (fun g1 => ?_)
  · have hE : decM b = (md0, 4) := by unfold decM; rw [if_pos (by simp at g1; omega)]
    refine sq3 ?_
    refine z93 ?_
    apply stp; rfl; rfl; rfl; rfl; (exact sputT)
    refine sq0 ?_
    refine an ?_
    refine sw_go (sgo_leb (r := r2) ssetT bor_md0) ?_
    refine ctlT ?_
    apply aend; exact resT
    · exact ⟨by rw [hE]; rfl, rfl⟩
    · exact stleT
  have h80 : ¬ 8000 < b.length := by simp at g1; omega
  refine sq3 ?_
  apply al; rfl; (exact zcT); refine freshT fun r4 h4 => ?_; repeat rcases h4 with ⟨_, h4⟩
  refine sq6 ?_
  refine sw_go (sgo_leb (r := r4) ssetT bor_md0) ?_
  refine sq13 ?_
  refine z145 ?_
  refine puA Tryz.call59 (lib_hasPrefix b headB (by omega) (by decide) hlt (by decide)) rfl pargsT nofT ?_
  refine lo (lop_not (E rfl)) rfl ?_
  refine z93 ?_
  apply bx; rfl; rfl; (exact zcT); rfl; refine freshT fun r18 h18 => ?_; repeat rcases h18 with ⟨_, h18⟩
  refine sq27 ?_
  refine cw [(r18, .box 104 (rdr (b, !decide (b.take headB.length = headB))))] Tryz.call60 (wsk r18) rfl argsleT stleT ?_
  rintro _ σ' ⟨rfl, rfl⟩ h20
  apply rs_sto; exact nflT
  refine sq6 ?_
  rw [show skN (b, !decide (b.take headB.length = headB)) ((8 : Nat) : Int) true = skN (b, !decide (b.take 8 = headB)) 8 true from rfl]
  rw [show skN (b, !decide (b.take headB.length = headB)) 8 true = skN (b, !decide (b.take 8 = headB)) 8 true from rfl] at k0
  generalize skN (b, !decide (b.take 8 = headB)) 8 true = s0 at k0 hP ⊢
  refine lp (β := Md × St) (fun x => ⟨[(0, .ro 1 (b.map encU) .any), (2, .ptr r2 0), (4, .ptr r4 0), (5, .ptr r18 0)], [(r18, .box 104 (rdr x.2)), (r4, .box 33 (encMd x.1)), (r2, .box 33 (encMd md0))]⟩) (fun x => x.1.WO ∧ SOk x.2 ∧ DN x.1 x.2 = prsN b) (fun x => x.2.1.length) (md0, s0) sgoT ⟨wo0, k0, hP.symm⟩ ?_
  rintro ⟨m, ⟨l, bad⟩⟩ ⟨hwo, hs, hD⟩
  dsimp only at hwo hs hD ⊢
  unfold rdr
  dsimp only
  refine sq4 ?_
  refine sq50 ?_
  refine z14 ?_
  refine sq116 ?_
  refine sw_cond rfl (fun g6 => ?_) (fun g6 => ?_)
  · obtain rfl : bad = false := by cases bad with | false => rfl | true => simp at g6
    have hne : l ≠ [] := by intro e; subst e; simp at g6
    have wb := wr_byte r18 (l, false) hs
    have kb := by_ok (l, false) hs
    have wn := wr_num r18 _ kb
    have kn := nu_ok _ kb
    have hbl : (byN (l, false)).1 < 256 := by cases l with | nil => exact absurd rfl hne | cons x t => exact hs.2 x List.mem_cons_self
    have ws := wr_section r18 r4 (by (exact nqT)) _ kn m (byN (l, false)).1
    have hst := dn_step (m := m) (s := (l, false)) hne rfl
    have kw := se_wo (byN (l, false)).1 hwo kn
    have ks := se_ok (byN (l, false)).1 m kn
    refine sq4 ?_
    refine cw [(r18, .box 104 (rdr (l, false)))] Tryz.call61 wb rfl argsleT stleT ?_
    rintro _ σ' ⟨rfl, rfl⟩ h35
    apply rs_sto; exact nflT
    refine z44 ?_
    refine sq27 ?_
    refine cw [(r18, .box 104 (rdr (byN (l, false)).2))] Tryz.call62 wn rfl argsleT stleT ?_
    rintro _ σ' ⟨rfl, rfl⟩ h38
    apply rs_sto; exact nflT
    refine sq84 ?_
    refine cw [(r18, .box 104 (rdr (nuN (byN (l, false)).2).2)), (r4, .box 33 (encMd m))] Tryz.call63 ws rfl argsleT stleT ?_
    rintro _ σ' ⟨rfl, rfl⟩ h41
    apply rs_sto; exact nflT
    refine sq6 ?_
    refine ⟨seN (byN (l, false)).1 m (nuN (byN (l, false)).2).2, ⟨kw, ks, hst.1.symm.trans hD⟩, hst.2, ?_⟩
    exact sgoT
  have hz : DN m (l, bad) = (m, (l, bad)) := dn_stop (by cases bad with | true => simp | false => (cases l with | nil => rfl | cons x t => (simp at g6 <;> omega)))
  rw [hz] at hD
  refine sq4 ?_
  refine sq50 ?_
  refine sq6 ?_
  refine sw_cond rfl (fun g10 => ?_) (fun g10 => ?_)
  · have hE : decM b = (md0, 1) := by unfold decM; rw [if_neg h80, if_pos (by rw [← hD]; exact g10)]
    refine sq3 ?_
    refine z93 ?_
    apply stp; rfl; rfl; rfl; rfl; (exact sputT)
    refine sq0 ?_
    refine an ?_
    refine sw_go (sgo_leb (r := r2) ssetT bor_md0) ?_
    refine ctlT ?_
    apply aend; exact resT
    · exact ⟨by rw [hE]; rfl, rfl⟩
    · exact stleT
  refine ctlT ?_
  obtain ⟨ty, im, fn, tb, me, gl, ex, el, co, da⟩ := m
  refine rgT ?_
  refine z99 ?_
  refine clA Tryz.call13 (wasm_encode ⟨ty, im, fn, tb, me, gl, ex, el, co, da⟩ hwo) rfl bargsT noT ?_
  rintro _ σ' ⟨q48, rfl, rfl⟩ h48
  replace h48 := lnewT h48; repeat rcases h48 with ⟨_, h48⟩
  apply rs_sto; exact nflT
  refine fzv (j := 48) rfl sdelT (bor_own sgT (by simp)) ?_
  refine sq2 ?_
  have hB : (prsN b).2.2 = false := by rw [← hD]; exact g10
  have hM : (prsN b).1 = ⟨ty, im, fn, tb, me, gl, ex, el, co, da⟩ := by rw [← hD]
  have hbn : b ≠ [] := by intro e; rw [e, prs_nil] at hB; cases hB
  refine sq1 ?_
  refine ne rfl rfl rfl fun z hz _ => ?_
  refine sq9 ?_
  refine z109 ?_
  refine pugA rfl rfl Tryz.call64 (fun _ => (lib_bytesEqual (encB ⟨ty, im, fn, tb, me, gl, ex, el, co, da⟩) b (encB_lt hwo) hlt)) rfl pargsT nofT ?_
  refine z130 ?_
  refine sq105 ?_
  refine sw_cond rfl (fun g13 => ?_) (fun g13 => ?_)
  · have hE := dec_err h80 hB hM hz hbn g13
    refine sq3 ?_
    refine z93 ?_
    apply stp; rfl; rfl; rfl; rfl; (exact sputT)
    refine sq0 ?_
    refine an ?_
    refine sw_go (sgo_leb (r := r2) ssetT bor_md0) ?_
    refine ctlT ?_
    apply aend; exact resT
    · exact ⟨by rw [hE]; rfl, rfl⟩
    · exact stleT
  have hE := dec_fine h80 hB hM hbn g13
  refine sq78 ?_
  apply stp; rfl; rfl; rfl; rfl; (exact sputT)
  refine sq2 ?_
  apply aend; exact resT
  · exact ⟨by rw [hE]; rfl, rfl⟩
  · exact stleT
/-
  The document's bytes of a module's parts.
-/
/-- what stands behind j of a list's parts -/
def ptJ {α : Type} (pt : α → List Nat) (l : List α) (j : Nat) : List Nat := (l.take j).flatMap pt
theorem ptJ_next {α : Type} {pt : α → List Nat} {l : List α} {j : Nat} {x : α} (h : l[j]? = some x) : ptJ pt l (j + 1) = ptJ pt l j ++ pt x := by
  unfold ptJ; rw [List.take_add_one, h, List.flatMap_append]; simp
theorem ptJ_all {α : Type} {pt : α → List Nat} {l : List α} : ptJ pt l l.length = l.flatMap pt := by unfold ptJ; rw [List.take_length]
theorem ptJ_le {α : Type} {pt : α → List Nat} {l : List α} {c : Nat} (h : ∀ x ∈ l, (pt x).length ≤ c) (j : Nat) : (ptJ pt l j).length ≤ l.length * c := by
  have h1 : ∀ (l : List α), (∀ x ∈ l, (pt x).length ≤ c) → (l.flatMap pt).length ≤ l.length * c := by
    intro l
    induction l with
    | nil => simp
    | cons x l ih =>
      intro h
      have := ih fun y hy => h y (List.mem_cons_of_mem _ hy)
      have hx := h x List.mem_cons_self
      rw [List.flatMap_cons, List.length_append, List.length_cons, Nat.add_mul]
      omega
  refine Nat.le_trans (h1 (l.take j) fun x hx => h x (List.mem_of_mem_take hx)) (Nat.mul_le_mul_right c ?_)
  simp; omega
theorem vecB_eq {α : Type} {pt : α → List Nat} {l : List α} : vecB l pt = uB l.length ++ ptJ pt l l.length := by rw [ptJ_all]; rfl
theorem rf_u (n : Int) (h0 : 0 ≤ n) (h1 : n ≤ 100000000) : SCall Tryz.prog 68 [.int .i64 n] [] (fun y σ => ∃ q, y = .own q 0 (numB n).length ∧ σ = [(q, .arr 5 1 ((numB n).map encU))]) := by
  obtain ⟨k, rfl⟩ : ∃ k : Nat, n = k := ⟨n.toNat, by omega⟩
  have hU := ref_U k (by omega)
  have hn : numB (k : Int) = uB k := rfl
  rw [hn]
  refine scall_of (n := 6) (ks := [0, 2]) Tryz.func68 rfl rfl (Nat.le_of_ble_eq_true rfl) ?_
  refine sq32 ?_
  refine z24 ?_
  refine clA Tryz.call151 hU rfl bargsT noT ?_
  rintro _ σ' ⟨q, rfl, rfl⟩ h5
  replace h5 := lnewT h5; repeat rcases h5 with ⟨_, h5⟩
  apply rs_sto; exact nflT
  refine sq2 ?_
  apply aend; exact resT
  · exact ⟨q, rfl, rfl⟩
  · exact stleT
theorem rf_vec {k : Rk} (n : Nat) (vs : List Nat) (h1 : n ≤ 100000000) (h2 : vs.length ≤ 50000000) : SCall Tryz.prog 150 [.int .i64 n, .ro 1 (vs.map encU) k] [] (fun y σ => ∃ q, y = .own q 0 (uB n ++ vs).length ∧ σ = [(q, .arr 5 1 ((uB n ++ vs).map encU))]) := by
  have hu := rf_u n (by omega) (by omega)
  have hn : numB (n : Int) = uB n := rfl
  rw [hn] at hu
  have hl := uB_len 4 n (by omega)
  refine scall_of (n := 9) (ks := [0, 1, 4]) Tryz.func150 rfl rfl (Nat.le_of_ble_eq_true rfl) ?_
  refine sq32 ?_
  refine clA Tryz.call68 hu rfl bargsT noT ?_
  rintro _ σ' ⟨q, rfl, rfl⟩ h6
  replace h6 := lnewT h6; repeat rcases h6 with ⟨_, h6⟩
  apply rs_sto; exact nflT
  refine lo (lop_move (E rfl)) rfl ?_
  refine apA ((uB n ++ vs).map encU) (uB n ++ vs).length ?_
  refine apnT fun r8 h8 => ?_; repeat rcases h8 with ⟨_, h8⟩
  refine sq2 ?_
  apply aend; exact resT
  · exact ⟨r8, rfl, rfl⟩
  · exact stleT
theorem rf_name (s : List Nat) (h1 : s.length ≤ 100000) (h2 : ∀ c ∈ s, c < 256) : SCall Tryz.prog 67 [.str (strU s)] [] (fun y σ => ∃ q, y = .own q 0 (txtB s).length ∧ σ = [(q, .arr 5 1 ((txtB s).map encU))]) := by
  have hv := rf_vec (k := .any) s.length s (by omega) (by omega)
  refine scall_of (n := 8) (ks := [0, 2]) Tryz.func67 rfl rfl (Nat.le_of_ble_eq_true rfl) ?_
  refine sq32 ?_
  refine lo (lop_len_str (E rfl)) rfl ?_
  refine lo (lop_move (E rfl)) rfl ?_
  refine cvb h2 ?_ (by simp [maxLen]; omega)
  rw [strU_size]
  refine clA Tryz.call150 hv rfl bargsT noT ?_
  rintro _ σ' ⟨q, rfl, rfl⟩ h7
  replace h7 := lnewT h7; repeat rcases h7 with ⟨_, h7⟩
  apply rs_sto; exact nflT
  refine sq2 ?_
  apply aend; exact resT
  · exact ⟨q, rfl, rfl⟩
  · exact stleT
theorem rf_kind (k : Int) : SCall Tryz.prog 70 [.int .i64 k] [] (fun y σ => y = .int .u8 ((if (k == 1) = true then 127 else 126 : Nat) : Nat) ∧ σ = []) := by
  refine scall_of (n := 5) (ks := [0, 2, 4]) Tryz.func70 rfl rfl (Nat.le_of_ble_eq_true rfl) ?_
  refine sq32 ?_
  refine sq36 ?_
  refine sw_cond rfl (fun g1 => ?_) (fun g1 => ?_)
  · have hE : (if (k == 1) = true then 127 else 126 : Nat) = 127 := if_pos g1
    refine sq7 ?_
    apply aend; exact resT
    · exact ⟨by rw [hE]; rfl, rfl⟩
    · exact stleT
  have hE : (if (k == 1) = true then 127 else 126 : Nat) = 126 := if_neg (by rw [g1]; simp)
  refine sq7 ?_
  apply aend; exact resT
  · exact ⟨by rw [hE]; rfl, rfl⟩
  · exact stleT
theorem kB_eq (k : Int) : kB k = [if (k == 1) = true then 127 else 126] := by unfold kB; split <;> rfl
theorem rf_kinds {k : Rk} (l : List Int) (hl : l.length ≤ 1000) : SCall Tryz.prog 65 [.ro 1 (l.map encI) k] [] (fun y σ => ∃ q, y = .own q 0 (vecB l kB).length ∧ σ = [(q, .arr 5 1 ((vecB l kB).map encU))]) := by
  have hfl := ptJ_le (l := l) (fun x _ => Nat.le_of_eq (kB_len x))
  rw [vecB_eq]
  refine scall_of (n := 23) (ks := [0, 2, 3, 4, 8]) Tryz.func65 rfl rfl (Nat.le_of_ble_eq_true rfl) ?_
  refine sq107 ?_
  refine sw_virt 3 5 1 (by decide) rfl (by decide) (freshT fun q0 hq0 => ?_); repeat rcases hq0 with ⟨_, hq0⟩
  refine sq51 ?_
  refine lp (β := Nat × Nat) (fun b => ⟨[(0, .ro 1 (l.map encI) k), (3, .own b.1 0 (ptJ kB l b.2).length), (4, .int .i64 b.2)], [(b.1, .arr 5 1 ((ptJ kB l b.2).map encU))]⟩) (fun b => b.2 ≤ l.length) (fun b => l.length - b.2) (q0, 0) sgoT (Nat.zero_le _) ?_
  rintro ⟨q1, j⟩ hj
  have hpl := hfl j
  dsimp only at hj ⊢
  refine sq8 ?_
  refine sq71 ?_
  refine sw_cond rfl (fun g3 => ?_) (fun g3 => ?_)
  · have hlt : j < l.length := by simp at g3; omega
    obtain ⟨x, hx⟩ : ∃ x, l[j]? = some x := ⟨_, List.getElem?_eq_getElem hlt⟩
    have hnx : ptJ kB l (j + 1) = ptJ kB l j ++ [if (x == 1) = true then 127 else 126] := by rw [ptJ_next hx, kB_eq]
    refine sq8 ?_
    refine sq31 ?_
    refine z16 ?_
    refine puA Tryz.call70 (rf_kind x) rfl pargsT nofT ?_
    refine z1 ?_; refine freshT fun r17 h17 => ?_; repeat rcases h17 with ⟨_, h17⟩
    refine apA ((ptJ kB l j ++ [if (x == 1) = true then 127 else 126]).map encU) (ptJ kB l j ++ [if (x == 1) = true then 127 else 126]).length ?_
    refine apnT fun r18 h18 => ?_; repeat rcases h18 with ⟨_, h18⟩
    refine sq27 ?_
    refine sq37 ?_
    refine ⟨(r18, j + 1), hlt, by show l.length - (j + 1) < l.length - j; omega, ?_⟩
    dsimp only
    rw [hnx]
    exact sgoT
  obtain rfl : j = l.length := by simp at g3; omega
  refine sq4 ?_
  refine sq19 ?_
  refine clA Tryz.call150 (rf_vec l.length (ptJ kB l l.length) (by omega) (by omega)) rfl bargsT noT ?_
  rintro _ σ' ⟨q4, rfl, rfl⟩ h22
  replace h22 := lnewT h22; repeat rcases h22 with ⟨_, h22⟩
  apply rs_sto; exact nflT
  refine sq2 ?_
  apply aend; exact resT
  · exact ⟨q4, rfl, rfl⟩
  · exact stleT
theorem rf_numbers {k : Rk} (l : List Int) (hl : l.length ≤ 1000) (h0 : ∀ x ∈ l, 0 ≤ x ∧ x ≤ 100000000) : SCall Tryz.prog 153 [.ro 1 (l.map encI) k] [] (fun y σ => ∃ q, y = .own q 0 (vecB l numB).length ∧ σ = [(q, .arr 5 1 ((vecB l numB).map encU))]) := by
  have hfl := ptJ_le (pt := numB) (l := l) (c := 5) fun x hx => by have := h0 x hx; exact uB_len 4 x.toNat (by omega)
  rw [vecB_eq]
  refine scall_of (n := 22) (ks := [0, 2, 3, 4, 8]) Tryz.func153 rfl rfl (Nat.le_of_ble_eq_true rfl) ?_
  refine sq107 ?_
  refine sw_virt 3 5 1 (by decide) rfl (by decide) (freshT fun q0 hq0 => ?_); repeat rcases hq0 with ⟨_, hq0⟩
  refine sq51 ?_
  refine lp (β := Nat × Nat) (fun b => ⟨[(0, .ro 1 (l.map encI) k), (3, .own b.1 0 (ptJ numB l b.2).length), (4, .int .i64 b.2)], [(b.1, .arr 5 1 ((ptJ numB l b.2).map encU))]⟩) (fun b => b.2 ≤ l.length) (fun b => l.length - b.2) (q0, 0) sgoT (Nat.zero_le _) ?_
  rintro ⟨q1, j⟩ hj
  have hpl := hfl j
  dsimp only at hj ⊢
  refine sq8 ?_
  refine sq71 ?_
  refine sw_cond rfl (fun g3 => ?_) (fun g3 => ?_)
  · have hlt : j < l.length := by simp at g3; omega
    obtain ⟨x, hx⟩ : ∃ x, l[j]? = some x := ⟨_, List.getElem?_eq_getElem hlt⟩
    have hx0 := h0 x (List.mem_of_getElem? hx)
    have hxl := uB_len 4 x.toNat (by omega)
    have hxl2 : (numB x).length ≤ 5 := hxl
    have hnx : ptJ numB l (j + 1) = ptJ numB l j ++ numB x := ptJ_next hx
    refine sq8 ?_
    refine sq31 ?_
    refine z16 ?_
    refine clA Tryz.call68 (rf_u x hx0.1 hx0.2) rfl bargsT noT ?_
    rintro _ σ' ⟨q16, rfl, rfl⟩ h16
    replace h16 := lnewT h16; repeat rcases h16 with ⟨_, h16⟩
    apply rs_sto; exact nflT
    refine apA ((ptJ numB l j ++ numB x).map encU) (ptJ numB l j ++ numB x).length ?_
    refine apnT fun r17 h17 => ?_; repeat rcases h17 with ⟨_, h17⟩
    refine sq27 ?_
    refine sq37 ?_
    refine ⟨(r17, j + 1), hlt, by show l.length - (j + 1) < l.length - j; omega, ?_⟩
    dsimp only
    rw [hnx]
    exact sgoT
  obtain rfl : j = l.length := by simp at g3; omega
  refine sq4 ?_
  refine sq19 ?_
  refine clA Tryz.call150 (rf_vec l.length (ptJ numB l l.length) (by omega) (by omega)) rfl bargsT noT ?_
  rintro _ σ' ⟨q4, rfl, rfl⟩ h21
  replace h21 := lnewT h21; repeat rcases h21 with ⟨_, h21⟩
  apply rs_sto; exact nflT
  refine sq2 ?_
  apply aend; exact resT
  · exact ⟨q4, rfl, rfl⟩
  · exact stleT
end Go.Proofs.YtfihcehdoikfkaaGreat
/-
  The symbolic layer: operations of a drawn region where two may be next: append, new variables. No program is named here.
-/
namespace Go.Proofs.YtfihcehdoikfkaaGreat
open Go.RowKit Go.ChangeShapes Go.WideShapes Go.ChangeAt Go.Deep
section
variable {P : Program} {n : Nat} {ops : Array Oper} {fr : Fr} {σ : Sto} {K : ASt → Prop} {ty t : TypeId} {d : Nat} {x y : Operand} {listed : Array Bool} {todo : List (Nat × Bool)} {held : List (Nat × List Nat)}
theorem hapA {e : TypeId} {sz by_ : Nat} {zv : Value} {r len : Nat} {es ys : List (List AV)} (es' : List (List AV)) (len' : Nat)
    (hK : ∀ r', Fresh r' (sdrop [r] σ) → ∃ σ', SSet σ r (.arr e sz es) r' (.arr e sz es') σ' ∧ RD P n ops listed todo held ⟨(d, .own r' 0 len') :: fr, σ'⟩ K)
    (i1 : Ty P t (.slice e) := by infer_instance) (i2 : Tz P e sz by_ zv := by infer_instance) (hz : zv.cells.size = sz := by rfl) (hx : aev ⟨fr, σ⟩ x = some (.own r 0 len) := by rfl) (hg : sget σ r = some (.arr e sz es) := by exact sgT) (hlen : len = es.length := by exact lenT) (hy : Src ⟨fr, σ⟩ y sz ys := by exact srcT)
    (he : es ++ ys = es' := by exact newT) (hl' : len' = len + ys.length := by exact lenT) (hmax : len' ≤ maxLen := by (simp [maxLen]; try omega)) (hby : len' * by_ ≤ 140737488355328 := by (simp; try omega)) (hd : Nat.ble (d + 1) n = true := by rfl) :
    Hop P n (.call { callee := .builtin .append, args := #[x, y], argTypes := #[t, t] }) ty (some d) ⟨fr, σ⟩ [r] (fun s' => RD P n ops listed todo held s' K) := by
  subst he hl'
  refine hop_append_own hz hx hg (by omega) hy hmax hby (lt_ble hd) fun r' hf => ?_
  obtain ⟨σ', hs, hK⟩ := hK r' hf
  rw [hlen, List.take_length]
  refine rd_sub (fun p hp => hs.sub p hp) ?_
  rw [← hlen]
  exact hK
theorem hop_call_lentA {f : FuncId} {xs : List Operand} {ats : Array TypeId} {args : List AV} {R : AV → Sto → Prop} (hf : ∀ args w, (callFunc f args).run P w = .ok (.enter f args) w) (h : SCall P f args [] R) (hd : d < n)
    (hK : ∀ x σ', R x σ' → (∀ p ∈ σ', Fresh p.1 σ) → K ⟨(d, x) :: fr, σ' ++ σ⟩) (hargs : ArgsBor ⟨fr, σ⟩ (σ.map (·.1)) xs args := by exact bargsT) (hno : ∀ x σ', R x σ' → NoF x ∧ ∀ p ∈ σ', ENoF p.2 := by exact noT) :
    Hop P n (.call { callee := .value (.func f), args := xs.toArray, argTypes := ats }) ty (some d) ⟨fr, σ⟩ [] K := hop_call_lent (s := ⟨fr, σ⟩) _ hf h hd hargs hno hK
theorem hopal {sz by_ : Nat} {z : Value} {cs : List AV} (i1 : Tz P t sz by_ z) (hd : Nat.ble (d + 1) n = true) (hz : z.cells.toList.map ofConst = cs) (hK : ∀ r, Fresh r σ → K ⟨(d, .ptr r 0) :: fr, (r, .box t cs) :: σ⟩) : Hop P n (.alloc t) ty (some d) ⟨fr, σ⟩ [] K := by
  subst hz
  exact hop_alloc (lt_ble hd) hK
end
end Go.Proofs.YtfihcehdoikfkaaGreat
/-
  The document's bytes of a module's parts: limits, constants, sections, locals.
-/
namespace Go.Proofs.YtfihcehdoikfkaaGreat
open Go.RowKit Go.ChangeShapes Go.WideShapes Go.ChangeAt Go.Deep
attribute [local irreducible] SW RS RD AThen ABlock
theorem rf_limits (l : Li) (h : okLi l) : SCall Tryz.prog 69 [.agg (encLi l)] [] (fun y σ => ∃ q, y = .own q 0 (limB l).length ∧ σ = [(q, .arr 5 1 ((limB l).map encU))]) := by
  obtain ⟨has, mn, mx⟩ := l
  obtain ⟨h0, h1, h2⟩ := h
  dsimp only at h0 h1 h2
  have hu := uB_len 2 mn.toNat (by omega)
  have hu2 := uB_len 2 mx.toNat (by omega)
  have hul : (numB mn).length ≤ 3 := hu
  have hul2 : (numB mx).length ≤ 3 := hu2
  refine scall_of (n := 20) (ks := [0, 1, 2, 5]) Tryz.func69 rfl rfl (Nat.le_of_ble_eq_true rfl) ?_
  unfold encLi
  refine sq3 ?_
  apply bx; rfl; rfl; (exact zcT); rfl; refine freshT fun r1 h1 => ?_; repeat rcases h1 with ⟨_, h1⟩
  refine sq41 ?_
  refine sq10 ?_
  refine sw_cond rfl (fun g1 => ?_) (fun g1 => ?_)
  · have hE : limB ⟨has, mn, mx⟩ = [0] ++ numB mn := by unfold limB; rw [if_pos g1]; rfl
    refine sq3 ?_
    refine z1 ?_; refine freshT fun r6 h6 => ?_; repeat rcases h6 with ⟨_, h6⟩
    refine sq12 ?_
    refine clA Tryz.call68 (rf_u mn h0 (by omega)) rfl bargsT noT ?_
    rintro _ σ' ⟨q9, rfl, rfl⟩ h9
    replace h9 := lnewT h9; repeat rcases h9 with ⟨_, h9⟩
    apply rs_sto; exact nflT
    refine apA (([0] ++ numB mn).map encU) ([0] ++ numB mn).length ?_
    refine apnT fun r10 h10 => ?_; repeat rcases h10 with ⟨_, h10⟩
    refine sq2 ?_
    apply aend; exact resT
    · exact ⟨r10, by rw [hE]; rfl, by rw [hE]⟩
    · exact stleT
  have hE : limB ⟨has, mn, mx⟩ = [1] ++ numB mn ++ numB mx := by unfold limB; rw [if_neg (by rw [g1]; simp)]; rfl
  have hx : 0 ≤ mx := by simp at g1; omega
  refine ctlT ?_
  refine rgD [(1, true), (2, true), (5, true), (6, true), (10, false), (10, false), (10, false), (10, false), (10, false), (10, false)] ?_
  refine sq20 ?_
  refine sq20 ?_
  refine rd_fork2 0 3 [(3, false), (4, false), (7, false), (8, false), (9, true)] [(0, false), (4, false), (7, false), (8, false), (9, true)] (f1 := []) (f2 := []) (by kernel_rfl) rfl rfl ?_ ?_ (.inl rfl) (.inl rfl)
  · apply hopbs; infer_instance; infer_instance; (exact aevtT); rfl; rfl; rfl; rfl; (exact zcT); rfl; refine freshT fun r11 h11 => ?_; repeat rcases h11 with ⟨_, h11⟩
    refine dclA rfl Tryz.call68 (rf_u mn h0 (by omega)) rfl bargsT noT ?_
    rintro _ σ' ⟨q14, rfl, rfl⟩ h14
    replace h14 := lnewT h14; repeat rcases h14 with ⟨_, h14⟩
    apply rd_sto; exact nflT
    refine dapA rfl (([1] ++ numB mn).map encU) ([1] ++ numB mn).length ?_
    refine apnT fun r15 h15 => ?_; repeat rcases h15 with ⟨_, h15⟩
    refine dclA rfl Tryz.call68 (rf_u mx hx (by omega)) rfl bargsT noT ?_
    rintro _ σ' ⟨q18, rfl, rfl⟩ h18
    replace h18 := lnewT h18; repeat rcases h18 with ⟨_, h18⟩
    apply rd_sto; exact nflT
    refine dapA rfl (([1] ++ numB mn ++ numB mx).map encU) ([1] ++ numB mn ++ numB mx).length ?_
    refine apnT fun r19 h19 => ?_; repeat rcases h19 with ⟨_, h19⟩
    refine sq68 ?_
    apply aend; exact resT
    · exact ⟨r19, by rw [hE]; rfl, by rw [hE]⟩
    · exact stleT
  · refine hop_call_lentA Tryz.call68 (rf_u mn h0 (by omega)) (lt_ble rfl) ?_
    rintro _ σ' ⟨q14, rfl, rfl⟩ h14
    replace h14 := lnewT h14; repeat rcases h14 with ⟨_, h14⟩
    apply rd_sto; exact nflT
    refine z97 ?_; refine freshT fun r11 h11 => ?_; repeat rcases h11 with ⟨_, h11⟩
    refine dapA rfl (([1] ++ numB mn).map encU) ([1] ++ numB mn).length ?_
    refine apnT fun r15 h15 => ?_; repeat rcases h15 with ⟨_, h15⟩
    refine dclA rfl Tryz.call68 (rf_u mx hx (by omega)) rfl bargsT noT ?_
    rintro _ σ' ⟨q18, rfl, rfl⟩ h18
    replace h18 := lnewT h18; repeat rcases h18 with ⟨_, h18⟩
    apply rd_sto; exact nflT
    refine dapA rfl (([1] ++ numB mn ++ numB mx).map encU) ([1] ++ numB mn ++ numB mx).length ?_
    refine apnT fun r19 h19 => ?_; repeat rcases h19 with ⟨_, h19⟩
    refine sq68 ?_
    apply aend; exact resT
    · exact ⟨r19, by rw [hE]; rfl, by rw [hE]⟩
    · exact stleT
theorem rf_constant (k n : Int) (hv : valN k n = true) (hn : -9223372036854775808 ≤ n ∧ n ≤ 9223372036854775807) : SCall Tryz.prog 71 [.agg [.int .i64 k, .int .i64 n]] []
    (fun y σ => ∃ q, y = .own q 0 (conB k n).length ∧ σ = [(q, .arr 5 1 ((conB k n).map encU))]) := by
  obtain ⟨ho, hm, -⟩ := co_may hv hn
  have hpl := putN_len ho hm
  have hcB : conB k n = putN ⟨if (k == 2) = true then 66 else 65, n, 0, []⟩ ++ [11] := rfl
  rw [hcB]
  generalize hop : (if (k == 2) = true then (66 : Int) else 65) = op at ho hm hpl hcB ⊢
  have hop := hop.symm
  refine scall_of (n := 14) (ks := [0, 1, 2, 3, 6]) Tryz.func71 rfl rfl (Nat.le_of_ble_eq_true rfl) ?_
  refine sq3 ?_
  apply bx; rfl; rfl; (exact zcT); rfl; refine freshT fun r1 h1 => ?_; repeat rcases h1 with ⟨_, h1⟩
  refine sq22 ?_
  refine sq41 ?_
  refine sq36 ?_
  refine sw_cond rfl (fun g2 => ?_) (fun g2 => ?_)
  · have hco : ofConst (.int .i64 66) = AV.int .i64 op := by rw [hop, if_pos g2]; rfl
    refine sq7 ?_
    rw [hco]
    refine sq82 ?_
    refine z93 ?_
    refine rs_go (sgo_vle (j := 10) rfl vle_ins) ?_
    refine clA Tryz.call152 (ref_putInstr .any ⟨op, n, 0, []⟩ ho hm) rfl bargsT noT ?_
    rintro _ σ' ⟨q11, rfl, rfl⟩ h11
    replace h11 := lnewT h11; repeat rcases h11 with ⟨_, h11⟩
    apply rs_sto; exact nflT
    refine z1 ?_; refine freshT fun r12 h12 => ?_; repeat rcases h12 with ⟨_, h12⟩
    refine apA ((putN ⟨op, n, 0, []⟩ ++ [11]).map encU) (putN ⟨op, n, 0, []⟩ ++ [11]).length ?_
    refine apnT fun r13 h13 => ?_; repeat rcases h13 with ⟨_, h13⟩
    refine sq2 ?_
    apply aend; exact resT
    · exact ⟨r13, rfl, rfl⟩
    · exact stleT
  have hco : ofConst (.int .i64 65) = AV.int .i64 op := by rw [hop, if_neg (by simp [g2])]; rfl
  refine ctlT ?_
  rw [hco]
  refine sq82 ?_
  refine z93 ?_
  refine rs_go (sgo_vle (j := 10) rfl vle_ins) ?_
  refine clA Tryz.call152 (ref_putInstr .any ⟨op, n, 0, []⟩ ho hm) rfl bargsT noT ?_
  rintro _ σ' ⟨q11, rfl, rfl⟩ h11
  replace h11 := lnewT h11; repeat rcases h11 with ⟨_, h11⟩
  apply rs_sto; exact nflT
  refine z1 ?_; refine freshT fun r12 h12 => ?_; repeat rcases h12 with ⟨_, h12⟩
  refine apA ((putN ⟨op, n, 0, []⟩ ++ [11]).map encU) (putN ⟨op, n, 0, []⟩ ++ [11]).length ?_
  refine apnT fun r13 h13 => ?_; repeat rcases h13 with ⟨_, h13⟩
  refine sq2 ?_
  apply aend; exact resT
  · exact ⟨r13, rfl, rfl⟩
  · exact stleT
theorem rf_section {α : Type} (no : Nat) (hno : no < 256) (l : List α) (pt : α → List Nat) (hl : l.length ≤ 1000) (hp : (ptJ pt l l.length).length ≤ 30000000) : SCall Tryz.prog 66 [.int .i64 no, .int .i64 l.length, .ro 1 ((ptJ pt l l.length).map encU) .any] []
    (fun y σ => ∃ q, y = .own q 0 (secB no l pt).length ∧ σ = [(q, .arr 5 1 ((secB no l pt).map encU))]) := by
  have hu := uB_len 1 l.length (by omega)
  have hV : vecB l pt = uB l.length ++ ptJ pt l l.length := vecB_eq
  have hvl : (uB l.length ++ ptJ pt l l.length).length ≤ 40000000 := by simp; omega
  have hw := rf_vec (k := .any) l.length (ptJ pt l l.length) (by omega) (by omega)
  rw [← hV] at hvl hw
  have hS : secB no l pt = if l.isEmpty then [] else [no] ++ (uB (vecB l pt).length ++ vecB l pt) := rfl
  have hub := uB_len 4 (vecB l pt).length (by omega)
  refine scall_of (n := 21) (ks := [0, 1, 2, 6, 7, 9]) Tryz.func66 rfl rfl (Nat.le_of_ble_eq_true rfl) ?_
  refine sq32 ?_
  refine sq36 ?_
  refine sw_cond rfl (fun g1 => ?_) (fun g1 => ?_)
  · obtain rfl : l = [] := by cases l with | nil => rfl | cons x t => (simp at g1 <;> omega)
    refine sq3 ?_
    refine sq0 ?_
    refine an ?_
    refine sw_virt 6 5 1 (by decide) rfl (by decide) (freshT fun q2 hq2 => ?_); repeat rcases hq2 with ⟨_, hq2⟩
    refine ctlT ?_
    apply aend; exact resT
    · exact ⟨q2, by rw [hS]; rfl, by rw [hS]⟩
    · exact stleT
  have hE : secB no l pt = [no] ++ (uB (vecB l pt).length ++ vecB l pt) := by rw [hS, if_neg]; intro e; rw [List.isEmpty_iff.1 e] at g1; simp at g1
  refine sq8 ?_
  refine clA Tryz.call150 hw rfl bargsT noT ?_
  rintro _ σ' ⟨q12, rfl, rfl⟩ h12
  replace h12 := lnewT h12; repeat rcases h12 with ⟨_, h12⟩
  apply rs_sto; exact nflT
  refine sq2 ?_
  generalize vecB l pt = P at hvl hub hE ⊢
  refine sq1 ?_
  refine z0 ?_
  refine z1 ?_; refine freshT fun r15 h15 => ?_; repeat rcases h15 with ⟨_, h15⟩
  refine lo (lop_move (E rfl)) rfl ?_
  refine sq19 ?_
  refine clA Tryz.call150 (rf_vec (k := .any) P.length P (by omega) (by omega)) rfl bargsT noT ?_
  rintro _ σ' ⟨q19, rfl, rfl⟩ h19
  replace h19 := lnewT h19; repeat rcases h19 with ⟨_, h19⟩
  apply rs_sto; exact nflT
  refine apA (([no] ++ (uB P.length ++ P)).map encU) ([no] ++ (uB P.length ++ P)).length ?_
  refine apnT fun r20 h20 => ?_; repeat rcases h20 with ⟨_, h20⟩
  refine sq2 ?_
  apply aend; exact resT
  · exact ⟨r20, by rw [hE]; rfl, by rw [hE]⟩
  · exact stleT
/-
  The document's bytes of locals: runs.
-/
/-- no run ends with what stands next -/
def Bd (l : List Int) (i : Nat) : Prop := ∀ (init : List (List Int)) (y : Int) (m : Nat), runsN (l.take i) = init ++ [List.replicate (m + 1) y] → l[i]? ≠ some y
theorem runs_first {l : List Int} {i : Nat} {x : Int} (hb : Bd l i) (hx : l[i]? = some x) : runsN (l.take (i + 1)) = runsN (l.take i) ++ [[x]] := by
  cases i with
  | zero => rw [show l.take 0 = [] from rfl, runs_one hx]; rfl
  | succ i =>
    have hi : i < l.length := by have := (List.getElem?_eq_some_iff.1 hx).1; omega
    obtain ⟨init, m, e, -, -⟩ := runs_last (List.getElem?_eq_getElem hi)
    have hk : l[i] ≠ x := fun h => hb init l[i] m e (by rw [h]; exact hx)
    rw [e]
    exact runs_new e hx hk
theorem runs_more {l : List Int} {i k : Nat} {x : Int} {R : List (List Int)} (hk : i < k) (h : runsN (l.take k) = R ++ [List.replicate (k - i) x]) (hx : l[k]? = some x) : runsN (l.take (k + 1)) = R ++ [List.replicate (k + 1 - i) x] := by
  obtain ⟨m, hm⟩ : ∃ m, k - i = m + 1 := ⟨k - i - 1, by omega⟩
  rw [hm] at h
  have := runs_same h hx
  rw [this, show k + 1 - i = m + 1 + 1 by omega, List.replicate_succ' (n := m + 1)]
theorem bd_next {l : List Int} {i k : Nat} {x : Int} {R : List (List Int)} (hk : i < k) (h : runsN (l.take k) = R ++ [List.replicate (k - i) x]) (hx : l[k]? ≠ some x) : Bd l k := by
  intro init y m e
  rw [h] at e
  have := (List.append_inj' e rfl).2
  simp only [List.cons.injEq, and_true] at this
  obtain ⟨m2, hm⟩ : ∃ m, k - i = m + 1 := ⟨k - i - 1, by omega⟩
  rw [hm, List.replicate_succ, List.replicate_succ] at this
  rw [← (List.cons.inj this).1]
  exact hx
theorem bd_zero (l : List Int) : Bd l 0 := fun init y m e => by
  rw [show runsN (l.take 0) = [] from rfl] at e
  simp at e
def lcJ (l : List Int) (i : Nat) : List Nat := (runsN (l.take i)).flatMap runB
theorem lcJ_next {l : List Int} {i k : Nat} {x : Int} (h : runsN (l.take k) = runsN (l.take i) ++ [List.replicate (k - i) x]) (hk : i < k) : lcJ l k = lcJ l i ++ numB ((k : Int) - i) ++ [if (x == 1) = true then 127 else 126] := by
  unfold lcJ
  rw [h, List.flatMap_append]
  simp only [List.flatMap_cons, List.flatMap_nil, List.append_nil, List.append_assoc]
  congr 1
  unfold runB
  rw [List.length_replicate, kB_eq, show ((k - i : Nat) : Int) = (k : Int) - i by omega]
  obtain ⟨m, hm⟩ : ∃ m, k - i = m + 1 := ⟨k - i - 1, by omega⟩
  rw [hm, List.replicate_succ, List.headD_cons]
theorem lcJ_len {l : List Int} (hl : l.length ≤ 1000) (i : Nat) : (lcJ l i).length ≤ 3000 ∧ (runsN (l.take i)).length ≤ 1000 := by
  obtain ⟨h1, h2⟩ := runs_ok _ (l.take i) rfl
  have h3 : ∀ r ∈ runsN (l.take i), 0 < r.length ∧ r.length ≤ 1000 := fun r hr => by
    obtain ⟨k, m, rfl, -, hm⟩ := h2 r hr
    simp at hm ⊢; omega
  have hn : ∀ (rs : List (List Int)), (∀ r ∈ rs, 0 < r.length ∧ r.length ≤ 1000) → rs.length ≤ rs.flatten.length ∧ (rs.flatMap runB).length ≤ 3 * rs.length := by
    intro rs
    induction rs with
    | nil => simp
    | cons r rs ih =>
      intro h
      have h4 := h r List.mem_cons_self
      have := ih fun r hr => h r (List.mem_cons_of_mem _ hr)
      have h5 := runB_len h4.2
      rw [List.flatten_cons, List.flatMap_cons, List.length_append, List.length_append, List.length_cons]
      omega
  have := hn _ h3
  have h6 : (runsN (l.take i)).flatten.length ≤ 1000 := by rw [h1]; simp; omega
  unfold lcJ
  omega
theorem rf_locals (l : List Int) (hl : l.length ≤ 1000) : SCall Tryz.prog 154 [.ro 1 (l.map encI) .any] [] (fun y σ => ∃ q, y = .own q 0 (vecB (runsN l) runB).length ∧ σ = [(q, .arr 5 1 ((vecB (runsN l) runB).map encU))]) := by
  have hJ := lcJ_len hl
  refine scall_of (n := 48) (ks := [0, 2, 3, 4, 5, 6, 10, 26]) Tryz.func154 rfl rfl (Nat.le_of_ble_eq_true rfl) ?_
  refine sq107 ?_
  refine sw_virt 3 5 1 (by decide) rfl (by decide) (freshT fun q0 hq0 => ?_); repeat rcases hq0 with ⟨_, hq0⟩
  refine rgT ?_
  refine sq22 ?_
  refine sq2 ?_
  refine lp (β := Nat × Nat) (fun b => ⟨[(0, .ro 1 (l.map encI) .any), (3, .own b.1 0 (lcJ l b.2).length), (4, .int .i64 ((runsN (l.take b.2)).length : Nat)), (5, .int .i64 b.2)], [(b.1, .arr 5 1 ((lcJ l b.2).map encU))]⟩) (fun b => b.2 ≤ l.length ∧ Bd l b.2) (fun b => l.length - b.2) (q0, 0) sgoT ⟨Nat.zero_le _, bd_zero l⟩ ?_
  rintro ⟨q1, i⟩ ⟨hi, hbd⟩
  obtain ⟨hJ1, hJ2⟩ := hJ i
  dsimp only at hi hbd ⊢
  refine sq8 ?_
  refine sq71 ?_
  refine sw_cond rfl (fun g4 => ?_) (fun g4 => ?_)
  · have hlt : i < l.length := by simp at g4; omega
    obtain ⟨x, hx⟩ : ∃ x, l[i]? = some x := ⟨_, List.getElem?_eq_getElem hlt⟩
    have hxi : l[i]! = x := by rw [List.getElem!_eq_getElem?_getD, hx]; rfl
    refine sq29 ?_
    refine lp (β := Nat) (fun k => ⟨[(0, .ro 1 (l.map encI) .any), (3, .own q1 0 (lcJ l i).length), (4, .int .i64 ((runsN (l.take i)).length : Nat)), (5, .int .i64 i), (6, .int .i64 k)], [(q1, .arr 5 1 ((lcJ l i).map encU))]⟩) (fun k => i ≤ k ∧ k ≤ l.length ∧ (i < k → runsN (l.take k) = runsN (l.take i) ++ [List.replicate (k - i) x])) (fun k => l.length - k) i sgoT ⟨Nat.le_refl _, hi, fun h => absurd h (Nat.lt_irrefl _)⟩ ?_
    rintro k ⟨hk1, hk2, hk3⟩
    refine ctlT ?_
    refine rgD [(0, true), (1, true), (2, true), (3, true), (4, true), (5, true), (6, true), (7, true), (8, true), (9, true), (10, true), (11, true), (12, true), (13, true), (14, true)] ?_
    refine sq56 ?_
    refine z78 ?_
    refine z46 ?_
    refine dlo rfl (lop_move (E rfl)) rfl ?_
    refine z156 ?_
    refine z156 ?_
    refine z157 ?_
    refine z158 ?_
    refine z156 ?_
    refine z156 ?_
    refine z157 ?_
    refine z158 ?_
    refine z159 ?_
    refine z160 ?_
    refine sq91 ?_
    refine sw_cond rfl (fun g6 => ?_) (fun g6 => ?_)
    · have hkl : k < l.length := by cases h : decide ((k : Int) < (l.length : Int)) with | true => (simp at h <;> omega) | false => (rw [h] at g6; cases g6)
      obtain ⟨y, hy⟩ : ∃ y, l[k]? = some y := ⟨_, List.getElem?_eq_getElem hkl⟩
      have hyi : l[k]! = y := by rw [List.getElem!_eq_getElem?_getD, hy]; rfl
      have hyx : y = x := by rw [decide_eq_true (by omega), if_pos rfl, Int.toNat_natCast, hyi] at g6; simpa using g6
      refine sq45 ?_
      refine ⟨k + 1, ⟨by omega, hkl, fun _ => ?_⟩, by show l.length - (k + 1) < l.length - k; omega, ?_⟩
      · rw [hyx] at hy
        rcases Nat.lt_or_ge i k with h | h
        · exact runs_more h (hk3 h) hy
        · obtain rfl : k = i := by omega
          rw [runs_first hbd hy, show k + 1 - k = 1 by omega]; rfl
      exact sgoT
    have hxk : l[k]? ≠ some x := by intro h; have hkl := (List.getElem?_eq_some_iff.1 h).1; rw [decide_eq_true (by omega), if_pos rfl, Int.toNat_natCast, List.getElem!_eq_getElem?_getD, h] at g6; simp at g6
    have hik : i < k := by rcases Nat.lt_or_ge i k with h | h; exact h; exact absurd (by rw [show k = i by omega]; exact hx) hxk
    have hrun := hk3 hik
    have hnx := lcJ_next hrun hik
    have hbk := bd_next hik hrun hxk
    obtain ⟨hJ3, hJ4⟩ := hJ k
    have hcnt : ((runsN (l.take k)).length : Int) = (runsN (l.take i)).length + 1 := by rw [hrun]; simp
    have hnl : (numB ((k : Int) - i)).length ≤ 5 := uB_len 4 ((k : Int) - i).toNat (by omega)
    refine ctlT ?_
    refine rgD [(0, true), (1, true), (2, true), (3, true), (6, true), (7, true), (8, true), (9, true), (4, false), (5, false), (10, false), (11, false), (12, false), (13, true)] ?_
    refine sq56 ?_
    refine dlo rfl (lop_move (E rfl)) rfl ?_
    refine z82 ?_
    refine sq40 ?_
    refine z57 ?_
    refine dclA rfl Tryz.call68 (rf_u ((k : Int) - i) (by omega) (by omega)) rfl bargsT noT ?_
    rintro _ σ' ⟨q33, rfl, rfl⟩ h33
    replace h33 := lnewT h33; repeat rcases h33 with ⟨_, h33⟩
    apply rd_sto; exact nflT
    refine dapA rfl ((lcJ l i ++ numB ((k : Int) - i)).map encU) (lcJ l i ++ numB ((k : Int) - i)).length ?_
    refine apnT fun r34 h34 => ?_; repeat rcases h34 with ⟨_, h34⟩
    refine dpuA rfl Tryz.call70 (rf_kind x) rfl pargsT nofT ?_
    refine z97 ?_; refine freshT fun r40 h40 => ?_; repeat rcases h40 with ⟨_, h40⟩
    refine dapA rfl ((lcJ l i ++ numB ((k : Int) - i) ++ [if (x == 1) = true then 127 else 126]).map encU) (lcJ l i ++ numB ((k : Int) - i) ++ [if (x == 1) = true then 127 else 126]).length ?_
    refine apnT fun r41 h41 => ?_; repeat rcases h41 with ⟨_, h41⟩
    refine sq15 ?_
    refine sq4 ?_
    refine z17 ?_
    refine sq27 ?_
    refine sq2 ?_
    refine ⟨(r41, k), ⟨hk2, hbk⟩, by show l.length - k < l.length - i; omega, ?_⟩
    dsimp only
    rw [hnx, hcnt]
    exact sgoT
  obtain rfl : i = l.length := by simp at g4; omega
  have hv := rf_vec (k := .any) (runsN (l.take l.length)).length (lcJ l l.length) (by omega) (by omega)
  rw [show uB (runsN (l.take l.length)).length ++ lcJ l l.length = vecB (runsN l) runB by unfold lcJ; rw [List.take_length]; rfl] at hv
  refine sq8 ?_
  refine clA Tryz.call150 hv rfl bargsT noT ?_
  rintro _ σ' ⟨q2, rfl, rfl⟩ h47
  replace h47 := lnewT h47; repeat rcases h47 with ⟨_, h47⟩
  apply rs_sto; exact nflT
  refine sq2 ?_
  apply aend; exact resT
  · exact ⟨q2, rfl, rfl⟩
  · exact stleT
/-
  The document's bytes of a module.
-/
def StrS (s : List Nat) : Prop := s.length ≤ 1000 ∧ ∀ c ∈ s, c < 256
def SmI (n : Int) : Prop := 0 ≤ n ∧ n ≤ 100000
/-- a module that the document's words can write -/
structure Md.G (m : Md) : Prop where
  ty : m.ty.length ≤ 100 ∧ ∀ x ∈ m.ty, x.pr.length ≤ 1000 ∧ x.rs.length ≤ 1000
  im : m.im.length ≤ 100 ∧ ∀ x ∈ m.im, StrS x.mod ∧ StrS x.nm ∧ SmI x.ty
  fn : m.fn.length ≤ 100 ∧ ∀ n ∈ m.fn, SmI n
  tb : m.tb.has = true → okLi m.tb
  me : m.me.has = true → okLi m.me
  gl : m.gl.length ≤ 100 ∧ ∀ g ∈ m.gl, valN g.kd g.n = true ∧ -9223372036854775808 ≤ g.n ∧ g.n ≤ 9223372036854775807
  ex : m.ex.length ≤ 100 ∧ ∀ x ∈ m.ex, StrS x.nm ∧ SmI x.fn
  el : m.el.length ≤ 100 ∧ ∀ x ∈ m.el, offN x.off = true ∧ x.fs.length ≤ 1000 ∧ ∀ n ∈ x.fs, SmI n
  co : m.co.length ≤ 100 ∧ ∀ x ∈ m.co, x.ls.length ≤ 1000 ∧ x.bd.length ≤ 310 ∧ ∀ i ∈ x.bd, i.Ok ∧ mayN i = true
  da : m.da.length ≤ 100 ∧ ∀ x ∈ m.da, offN x.off = true ∧ x.bs.length ≤ 1000
theorem nB_len {n : Int} (h : SmI n) : (numB n).length ≤ 5 := uB_len 4 n.toNat (by have := h.2; have := h.1; omega)
theorem tB_len {s : List Nat} (h : StrS s) : (txtB s).length ≤ 1005 := by
  have := uB_len 4 s.length (by have := h.1; omega)
  have := h.1
  unfold txtB; rw [List.length_append]; omega
theorem secB_le {α : Type} (no : Nat) {l : List α} (pt : α → List Nat) (c : Nat) (hl : l.length ≤ 100) (hc : c ≤ 100000) (h : ∀ x ∈ l, (pt x).length ≤ c) : (secB no l pt).length ≤ 20 + 100 * c ∧ ∀ j, (ptJ pt l j).length ≤ 100 * c := by
  have h1 := ptJ_le h
  have h4 : l.length * c ≤ 100 * c := Nat.mul_le_mul_right c hl
  have h2 : (vecB l pt).length ≤ 5 + 100 * c := by
    rw [vecB_eq, List.length_append]
    have := uB_len 4 l.length (by omega)
    have := h1 l.length
    omega
  refine ⟨?_, fun j => Nat.le_trans (h1 j) h4⟩
  have h3 := uB_len 4 (vecB l pt).length (by omega)
  unfold secB
  split
  · simp
  · simp only [List.length_cons, List.length_append]; omega
theorem ftB_len {t : FT} (h : t.pr.length ≤ 1000 ∧ t.rs.length ≤ 1000) : (ftB t).length ≤ 2100 := by
  have h1 := vec_len (pt := kB) (l := t.pr) (c := 1) (fun x _ => Nat.le_of_eq (kB_len x)) h.1
  have h2 := vec_len (pt := kB) (l := t.rs) (c := 1) (fun x _ => Nat.le_of_eq (kB_len x)) h.2
  unfold ftB
  simp only [List.length_cons, List.length_append]; omega
theorem imB_len {x : Im} (h : StrS x.mod ∧ StrS x.nm ∧ SmI x.ty) : (imB x).length ≤ 2100 := by
  have h1 := tB_len h.1
  have h2 := tB_len h.2.1
  have h3 := nB_len h.2.2
  unfold imB
  simp only [List.length_append, List.length_cons, List.length_nil]; omega
theorem glB_len {g : Gl} (h : valN g.kd g.n = true ∧ -9223372036854775808 ≤ g.n ∧ g.n ≤ 9223372036854775807) : (glB g).length ≤ 300 := by
  have h1 := con_len h.1 h.2
  have h2 := kB_len g.kd
  unfold glB
  simp only [List.length_append, List.length_cons, List.length_nil]; omega
theorem exB_len {x : Ex} (h : StrS x.nm ∧ SmI x.fn) : (exB x).length ≤ 1100 := by
  have h2 := tB_len h.1
  have h3 := nB_len h.2
  unfold exB
  simp only [List.length_append, List.length_cons, List.length_nil]; omega
theorem elB_len {x : El} (h : offN x.off = true ∧ x.fs.length ≤ 1000 ∧ ∀ n ∈ x.fs, SmI n) : (elB x).length ≤ 5300 := by
  have h1 := plc_len h.1
  have h2 := vec_len (pt := numB) (l := x.fs) (c := 5) (fun n hn => nB_len (h.2.2 n hn)) h.2.1
  unfold elB
  rw [List.length_append]; omega
theorem loB_len {l : List Int} (hl : l.length ≤ 1000) : (vecB (runsN l) runB).length ≤ 3010 := by
  have h := lcJ_len hl l.length
  unfold lcJ at h
  rw [List.take_length] at h
  have := uB_len 4 (runsN l).length (by omega)
  unfold vecB
  rw [List.length_append]; omega
theorem coB_len {x : Co} (h : x.ls.length ≤ 1000 ∧ x.bd.length ≤ 310 ∧ ∀ i ∈ x.bd, i.Ok ∧ mayN i = true) : (codB x).length ≤ 70000 := by
  have h1 := loB_len h.1
  have h2 := putL_len h.2.2
  have h3 := uB_len 4 (vecB (runsN x.ls) runB ++ putL x.bd).length (by rw [List.length_append]; omega)
  unfold codB
  rw [List.length_append, List.length_append]
  rw [List.length_append] at h3
  omega
theorem daB_len {x : Da} (h : offN x.off = true ∧ x.bs.length ≤ 1000) : (daB x).length ≤ 1300 := by
  have h1 := plc_len h.1
  have h2 := uB_len 4 x.bs.length (by omega)
  unfold daB
  simp only [List.length_append]; omega
theorem gl_next {s : List Nat} {mu : Bool} {k n : Int} {z : Nat} (h : (if mu = true then 1 else 0) = z) : s ++ glB ⟨mu, k, n⟩ = s ++ [if (k == 1) = true then 127 else 126, z] ++ conB k n := by
  unfold glB
  dsimp only
  rw [h, kB_eq]
  simp
def lateB (m : Md) : List Nat := secB 9 m.el elB ++ secB 10 m.co codB ++ secB 11 m.da daB
theorem rf_bytes (m : Md) (h : m.G) (hlate : SCall Tryz.prog 72 [.agg (encMd m)] [] (fun y σ => ∃ q, y = .own q 0 (lateB m).length ∧ σ = [(q, .arr 5 1 ((lateB m).map encU))])) (hll : (lateB m).length ≤ 10000000) : SCall Tryz.prog 18 [.agg (encMd m)] [] (fun y σ => ∃ q, y = .own q 0 (writB m).length ∧ σ = [(q, .arr 5 1 ((writB m).map encU))]) := by
  obtain ⟨⟨nty, hty⟩, ⟨nim, him⟩, ⟨nfn, hfn⟩, htb, hme, ⟨ngl, hgl⟩, ⟨nex, hex⟩, -, -, -⟩ := h
  obtain ⟨ty, im, fn, tb, me, gl, ex, el, co, da⟩ := m
  dsimp only at nty hty nim him nfn hfn htb hme ngl hgl nex hex
  obtain ⟨L1, Pty⟩ := secB_le 1 ftB 2100 nty (by decide) fun x hx => ftB_len (hty x hx)
  obtain ⟨L2, Pim⟩ := secB_le 2 imB 2100 nim (by decide) fun x hx => imB_len (him x hx)
  obtain ⟨L3, Pfn⟩ := secB_le 3 numB 5 nfn (by decide) fun x hx => nB_len (hfn x hx)
  obtain ⟨L6, Pgl⟩ := secB_le 6 glB 300 ngl (by decide) fun x hx => glB_len (hgl x hx)
  obtain ⟨L7, Pex⟩ := secB_le 7 exB 1100 nex (by decide) fun x hx => exB_len (hex x hx)
  have T1 : tb.has = true → secB 4 (oneL tb) (fun l => 112 :: limB l) = secB 4 [tb] (fun l => 112 :: limB l) := fun h => by unfold oneL; rw [h]; rfl
  have T0 : tb.has = false → secB 4 (oneL tb) (fun l => 112 :: limB l) = [] := fun h => by unfold oneL; rw [h]; rfl
  have E1 : me.has = true → secB 5 (oneL me) limB = secB 5 [me] limB := fun h => by unfold oneL; rw [h]; rfl
  have E0 : me.has = false → secB 5 (oneL me) limB = [] := fun h => by unfold oneL; rw [h]; rfl
  have L4 : (secB 4 (oneL tb) (fun l => 112 :: limB l)).length ≤ 1020 := by
    cases hh : tb.has with
    | false => rw [T0 hh]; decide
    | true => rw [T1 hh]; exact (secB_le 4 (l := [tb]) (fun l => 112 :: limB l) 10 (by simp) (by decide) (fun x hx => by obtain rfl := List.mem_singleton.1 hx; have := lim_len (htb hh); simp; omega)).1
  have L5 : (secB 5 (oneL me) limB).length ≤ 1020 := by
    cases hh : me.has with
    | false => rw [E0 hh]; decide
    | true => rw [E1 hh]; exact (secB_le 5 (l := [me]) limB 10 (by simp) (by decide) (fun x hx => by obtain rfl := List.mem_singleton.1 hx; have := lim_len (hme hh); omega)).1
  have hH : headB.length = 8 := rfl
  have hW : writB ⟨ty, im, fn, tb, me, gl, ex, el, co, da⟩ = headB ++ secB 1 ty ftB ++ secB 2 im imB ++ secB 3 fn numB ++ secB 4 (oneL tb) (fun l => 112 :: limB l) ++ secB 5 (oneL me) limB ++ secB 6 gl glB ++ secB 7 ex exB ++ lateB ⟨ty, im, fn, tb, me, gl, ex, el, co, da⟩ := by
    unfold writB lateB; simp only [List.append_assoc]
  rw [hW]
  generalize lateB ⟨ty, im, fn, tb, me, gl, ex, el, co, da⟩ = SL at hlate hll ⊢
  refine scall_of (n := 193) (ks := [0, 1, 2, 3, 4, 5, 6, 7, 8, 9, 10, 11, 12, 18, 51, 85, 105, 116, 127, 136, 160]) Tryz.func18 rfl rfl (Nat.le_of_ble_eq_true rfl) ?_
  unfold encMd
  dsimp only
  refine sq3 ?_
  apply bx; rfl; rfl; (exact zcT); rfl; refine freshT fun r1 h1 => ?_; repeat rcases h1 with ⟨_, h1⟩
  refine sq22 ?_
  refine z1 ?_; refine freshT fun r13 h13 => ?_; repeat rcases h13 with ⟨_, h13⟩
  refine sq2 ?_
  rw [show ([[.int .u8 0], [.int .u8 97], [.int .u8 115], [.int .u8 109], [.int .u8 1], [.int .u8 0], [.int .u8 0], [.int .u8 0]] : List (List AV)) = headB.map encU from rfl, show AV.own r13 0 8 = AV.own r13 0 headB.length from rfl]
  refine sq51 ?_
  refine sw_virt 4 5 1 (by decide) rfl (by decide) (freshT fun q4 hq4 => ?_); repeat rcases hq4 with ⟨_, hq4⟩
  refine sq51 ?_
  refine lp (β := Nat × Nat) (fun b => ⟨[(1, .ptr r1 0), (3, .own r13 0 (headB).length), (4, .own b.1 0 (ptJ ftB ty b.2).length), (5, .int .i64 b.2)], [(b.1, .arr 5 1 ((ptJ ftB ty b.2).map encU)), (r13, .arr 5 1 ((headB).map encU)), (r1, .box 33 (encMd ⟨ty, im, fn, tb, me, gl, ex, el, co, da⟩))]⟩) (fun b => b.2 ≤ ty.length ∧ Nq b.1 r1 ∧ Nq b.1 r13) (fun b => ty.length - b.2) (q4, 0) sgoT ⟨Nat.zero_le _, by show Nq q4 r1; (exact nqT), by show Nq q4 r13; (exact nqT)⟩ ?_
  rintro ⟨q1, j⟩ ⟨hj, hqa, hqb⟩
  have hpl := Pty j
  dsimp only at hj hqa hqb ⊢
  unfold encMd
  dsimp only
  refine sq89 ?_
  refine sw_cond rfl (fun g4 => ?_) (fun g4 => ?_)
  · have hlt : j < ty.length := by simp at g4; omega
    obtain ⟨⟨pr, rs⟩, hx⟩ : ∃ x, ty[j]? = some x := ⟨_, List.getElem?_eq_getElem hlt⟩
    obtain ⟨hp1, hp2⟩ := hty _ (List.mem_of_getElem? hx)
    dsimp only at hp1 hp2
    have hv1 := vec_len (pt := kB) (l := pr) (c := 1) (fun x _ => Nat.le_of_eq (kB_len x)) hp1
    have hv2 := vec_len (pt := kB) (l := rs) (c := 1) (fun x _ => Nat.le_of_eq (kB_len x)) hp2
    have hnx := ptJ_next (pt := ftB) hx
    refine ctlT ?_
    refine rgD [(0, true), (3, true), (4, true), (5, true), (6, true), (7, true), (8, true), (11, true), (12, true), (13, true), (14, true), (15, true), (16, true), (1, false), (2, false), (9, false), (10, false), (17, false), (18, false), (19, true)] ?_
    refine sq44 ?_
    refine sq18 ?_
    refine sq74 ?_
    refine sq87 ?_
    refine z97 ?_; refine freshT fun r22 h22 => ?_; repeat rcases h22 with ⟨_, h22⟩
    refine dapA rfl ((ptJ ftB ty j ++ [96]).map encU) (ptJ ftB ty j ++ [96]).length ?_
    refine apnT fun r23 h23 => ?_; repeat rcases h23 with ⟨_, h23⟩
    refine dclA rfl Tryz.call65 (rf_kinds pr hp1) rfl bargsT noT ?_
    rintro _ σ' ⟨q30, rfl, rfl⟩ h30
    replace h30 := lnewT h30; repeat rcases h30 with ⟨_, h30⟩
    apply rd_sto; exact nflT
    refine dapA rfl ((ptJ ftB ty j ++ [96] ++ vecB pr kB).map encU) (ptJ ftB ty j ++ [96] ++ vecB pr kB).length ?_
    refine apnT fun r31 h31 => ?_; repeat rcases h31 with ⟨_, h31⟩
    refine dclA rfl Tryz.call65 (rf_kinds rs hp2) rfl bargsT noT ?_
    rintro _ σ' ⟨q38, rfl, rfl⟩ h38
    replace h38 := lnewT h38; repeat rcases h38 with ⟨_, h38⟩
    apply rd_sto; exact nflT
    refine dapA rfl ((ptJ ftB ty j ++ [96] ++ vecB pr kB ++ vecB rs kB).map encU) (ptJ ftB ty j ++ [96] ++ vecB pr kB ++ vecB rs kB).length ?_
    refine apnT fun r39 h39 => ?_; repeat rcases h39 with ⟨_, h39⟩
    refine sq85 ?_
    refine ⟨(r39, j + 1), ⟨hlt, by show Nq r39 r1; (exact nqT), by show Nq r39 r13; (exact nqT)⟩, by show ty.length - (j + 1) < ty.length - j; omega, ?_⟩
    dsimp only
    rw [hnx]
    rw [show ptJ ftB ty j ++ ftB ⟨pr, rs⟩ = ptJ ftB ty j ++ [96] ++ vecB pr kB ++ vecB rs kB by unfold ftB; simp]
    exact sgoT
  obtain rfl : j = ty.length := by simp at g4; omega
  refine sq53 ?_
  refine sq19 ?_
  refine clA Tryz.call66 (rf_section 1 (by decide) ty ftB (by omega) (by have := Pty ty.length; omega)) rfl bargsT noT ?_
  rintro _ σ' ⟨q45, rfl, rfl⟩ h45
  replace h45 := lnewT h45; repeat rcases h45 with ⟨_, h45⟩
  apply rs_sto; exact nflT
  refine apA ((headB ++ secB 1 ty ftB).map encU) (headB ++ secB 1 ty ftB).length ?_
  refine apnT fun r46 h46 => ?_; repeat rcases h46 with ⟨_, h46⟩
  refine sq2 ?_
  generalize secB 1 ty ftB = S1 at L1 ⊢
  refine sq51 ?_
  refine sw_virt 4 5 1 (by decide) rfl (by decide) (freshT fun q5 hq5 => ?_); repeat rcases hq5 with ⟨_, hq5⟩
  refine sq51 ?_
  refine lp (β := Nat × Nat) (fun b => ⟨[(1, .ptr r1 0), (3, .own r46 0 (headB ++ S1).length), (4, .own b.1 0 (ptJ imB im b.2).length), (6, .int .i64 b.2)], [(b.1, .arr 5 1 ((ptJ imB im b.2).map encU)), (r46, .arr 5 1 ((headB ++ S1).map encU)), (r1, .box 33 (encMd ⟨ty, im, fn, tb, me, gl, ex, el, co, da⟩))]⟩) (fun b => b.2 ≤ im.length ∧ Nq b.1 r1 ∧ Nq b.1 r46) (fun b => im.length - b.2) (q5, 0) sgoT ⟨Nat.zero_le _, by show Nq q5 r1; (exact nqT), by show Nq q5 r46; (exact nqT)⟩ ?_
  rintro ⟨q1, j⟩ ⟨hj, hqa, hqb⟩
  have hpl := Pim j
  dsimp only at hj hqa hqb ⊢
  unfold encMd
  dsimp only
  refine sq89 ?_
  refine sw_cond rfl (fun g10 => ?_) (fun g10 => ?_)
  · have hlt : j < im.length := by simp at g10; omega
    obtain ⟨⟨md, nm, tt⟩, hx⟩ : ∃ x, im[j]? = some x := ⟨_, List.getElem?_eq_getElem hlt⟩
    obtain ⟨hm1, hm2, hm3⟩ := him _ (List.mem_of_getElem? hx)
    dsimp only at hm1 hm2 hm3
    have ht1 := tB_len hm1
    have ht2 := tB_len hm2
    have ht3 := nB_len hm3
    have hnx := ptJ_next (pt := imB) hx
    refine sq58 ?_
    refine sq31 ?_
    refine z111 ?_
    apply al; rfl; (exact zcT); refine freshT fun r7 h7 => ?_; repeat rcases h7 with ⟨_, h7⟩
    apply stp; rfl; rfl; rfl; rfl; (exact sputT)
    refine sq6 ?_
    refine rgD [(0, true), (1, true), (2, true), (5, true), (6, true), (11, true), (12, true), (16, false), (16, false), (16, false), (16, false), (16, false), (16, false), (16, false), (16, false), (16, false)] ?_
    refine sq44 ?_
    refine sq20 ?_
    refine sq20 ?_
    refine rd_fork2 3 9 [(16, false), (16, false), (16, false), (16, false), (16, false), (16, false), (16, false), (16, false)] [(3, false), (4, false), (7, false), (8, false), (10, false), (13, false), (14, false), (15, true)] (f1 := []) (f2 := []) (by kernel_rfl) rfl rfl ?_ ?_ (.inl rfl) (.inl rfl)
    · refine hop_call_lentA Tryz.call67 (rf_name md (by have := hm1.1; omega) hm1.2) (lt_ble rfl) ?_
      rintro _ σ' ⟨q62, rfl, rfl⟩ h62
      replace h62 := lnewT h62; repeat rcases h62 with ⟨_, h62⟩
      apply rd_sto; exact nflT
      refine rd_fork2 4 9 [(16, false), (16, false), (16, false), (16, false), (16, false), (16, false), (16, false)] [(4, false), (7, false), (8, false), (10, false), (13, false), (14, false), (15, true)] (f1 := [q1]) (f2 := []) (by kernel_rfl) rfl rfl ?_ ?_ (.inr ⟨by simp, hbtT⟩) (.inl rfl)
      · refine hapA ((ptJ imB im j ++ txtB md).map encU) (ptJ imB im j ++ txtB md).length ?_
        refine apnT fun r63 h63 => ?_; repeat rcases h63 with ⟨_, h63⟩
        refine rd_fork2 7 9 [(16, false), (16, false), (16, false), (16, false), (16, false), (16, false)] [(7, false), (8, false), (10, false), (13, false), (14, false), (15, true)] (f1 := []) (f2 := []) (by kernel_rfl) rfl rfl ?_ ?_ (.inl rfl) (.inl rfl)
        · refine hop_call_lentA Tryz.call67 (rf_name nm (by have := hm2.1; omega) hm2.2) (lt_ble rfl) ?_
          rintro _ σ' ⟨q66, rfl, rfl⟩ h66
          replace h66 := lnewT h66; repeat rcases h66 with ⟨_, h66⟩
          apply rd_sto; exact nflT
          refine rd_fork2 8 9 [(9, false), (10, false), (13, false), (14, false), (15, true)] [(8, false), (10, false), (13, false), (14, false), (15, true)] (f1 := [r63]) (f2 := []) (by kernel_rfl) rfl rfl ?_ ?_ (.inr ⟨by simp, hbtT⟩) (.inl rfl)
          · refine hapA ((ptJ imB im j ++ txtB md ++ txtB nm).map encU) (ptJ imB im j ++ txtB md ++ txtB nm).length ?_
            refine apnT fun r67 h67 => ?_; repeat rcases h67 with ⟨_, h67⟩
            refine z97 ?_; refine freshT fun r68 h68 => ?_; repeat rcases h68 with ⟨_, h68⟩
            refine dapA rfl ((ptJ imB im j ++ txtB md ++ txtB nm ++ [0]).map encU) (ptJ imB im j ++ txtB md ++ txtB nm ++ [0]).length ?_
            refine apnT fun r69 h69 => ?_; repeat rcases h69 with ⟨_, h69⟩
            refine dclA rfl Tryz.call68 (rf_u tt hm3.1 (by have := hm3.2; omega)) rfl bargsT noT ?_
            rintro _ σ' ⟨q72, rfl, rfl⟩ h72
            replace h72 := lnewT h72; repeat rcases h72 with ⟨_, h72⟩
            apply rd_sto; exact nflT
            refine dapA rfl ((ptJ imB im j ++ txtB md ++ txtB nm ++ [0] ++ numB tt).map encU) (ptJ imB im j ++ txtB md ++ txtB nm ++ [0] ++ numB tt).length ?_
            refine apnT fun r73 h73 => ?_; repeat rcases h73 with ⟨_, h73⟩
            refine sq85 ?_
            refine ⟨(r73, j + 1), ⟨hlt, by show Nq r73 r1; (exact nqT), by show Nq r73 r46; (exact nqT)⟩, by show im.length - (j + 1) < im.length - j; omega, ?_⟩
            dsimp only
            rw [hnx]
            rw [show ptJ imB im j ++ imB ⟨md, nm, tt⟩ = ptJ imB im j ++ txtB md ++ txtB nm ++ [0] ++ numB tt by unfold imB; simp]
            exact sgoT
          · apply hopbs; infer_instance; infer_instance; (exact aevtT); rfl; rfl; rfl; rfl; (exact zcT); rfl; refine freshT fun r68 h68 => ?_; repeat rcases h68 with ⟨_, h68⟩
            refine dapA rfl ((ptJ imB im j ++ txtB md ++ txtB nm).map encU) (ptJ imB im j ++ txtB md ++ txtB nm).length ?_
            refine apnT fun r67 h67 => ?_; repeat rcases h67 with ⟨_, h67⟩
            refine dapA rfl ((ptJ imB im j ++ txtB md ++ txtB nm ++ [0]).map encU) (ptJ imB im j ++ txtB md ++ txtB nm ++ [0]).length ?_
            refine apnT fun r69 h69 => ?_; repeat rcases h69 with ⟨_, h69⟩
            refine dclA rfl Tryz.call68 (rf_u tt hm3.1 (by have := hm3.2; omega)) rfl bargsT noT ?_
            rintro _ σ' ⟨q72, rfl, rfl⟩ h72
            replace h72 := lnewT h72; repeat rcases h72 with ⟨_, h72⟩
            apply rd_sto; exact nflT
            refine dapA rfl ((ptJ imB im j ++ txtB md ++ txtB nm ++ [0] ++ numB tt).map encU) (ptJ imB im j ++ txtB md ++ txtB nm ++ [0] ++ numB tt).length ?_
            refine apnT fun r73 h73 => ?_; repeat rcases h73 with ⟨_, h73⟩
            refine sq85 ?_
            refine ⟨(r73, j + 1), ⟨hlt, by show Nq r73 r1; (exact nqT), by show Nq r73 r46; (exact nqT)⟩, by show im.length - (j + 1) < im.length - j; omega, ?_⟩
            dsimp only
            rw [hnx]
            rw [show ptJ imB im j ++ imB ⟨md, nm, tt⟩ = ptJ imB im j ++ txtB md ++ txtB nm ++ [0] ++ numB tt by unfold imB; simp]
            exact sgoT
        · apply hopbs; infer_instance; infer_instance; (exact aevtT); rfl; rfl; rfl; rfl; (exact zcT); rfl; refine freshT fun r68 h68 => ?_; repeat rcases h68 with ⟨_, h68⟩
          refine dclA rfl Tryz.call67 (rf_name nm (by have := hm2.1; omega) hm2.2) rfl bargsT noT ?_
          rintro _ σ' ⟨q66, rfl, rfl⟩ h66
          replace h66 := lnewT h66; repeat rcases h66 with ⟨_, h66⟩
          apply rd_sto; exact nflT
          refine dapA rfl ((ptJ imB im j ++ txtB md ++ txtB nm).map encU) (ptJ imB im j ++ txtB md ++ txtB nm).length ?_
          refine apnT fun r67 h67 => ?_; repeat rcases h67 with ⟨_, h67⟩
          refine dapA rfl ((ptJ imB im j ++ txtB md ++ txtB nm ++ [0]).map encU) (ptJ imB im j ++ txtB md ++ txtB nm ++ [0]).length ?_
          refine apnT fun r69 h69 => ?_; repeat rcases h69 with ⟨_, h69⟩
          refine dclA rfl Tryz.call68 (rf_u tt hm3.1 (by have := hm3.2; omega)) rfl bargsT noT ?_
          rintro _ σ' ⟨q72, rfl, rfl⟩ h72
          replace h72 := lnewT h72; repeat rcases h72 with ⟨_, h72⟩
          apply rd_sto; exact nflT
          refine dapA rfl ((ptJ imB im j ++ txtB md ++ txtB nm ++ [0] ++ numB tt).map encU) (ptJ imB im j ++ txtB md ++ txtB nm ++ [0] ++ numB tt).length ?_
          refine apnT fun r73 h73 => ?_; repeat rcases h73 with ⟨_, h73⟩
          refine sq85 ?_
          refine ⟨(r73, j + 1), ⟨hlt, by show Nq r73 r1; (exact nqT), by show Nq r73 r46; (exact nqT)⟩, by show im.length - (j + 1) < im.length - j; omega, ?_⟩
          dsimp only
          rw [hnx]
          rw [show ptJ imB im j ++ imB ⟨md, nm, tt⟩ = ptJ imB im j ++ txtB md ++ txtB nm ++ [0] ++ numB tt by unfold imB; simp]
          exact sgoT
      · apply hopbs; infer_instance; infer_instance; (exact aevtT); rfl; rfl; rfl; rfl; (exact zcT); rfl; refine freshT fun r68 h68 => ?_; repeat rcases h68 with ⟨_, h68⟩
        refine dapA rfl ((ptJ imB im j ++ txtB md).map encU) (ptJ imB im j ++ txtB md).length ?_
        refine apnT fun r63 h63 => ?_; repeat rcases h63 with ⟨_, h63⟩
        refine dclA rfl Tryz.call67 (rf_name nm (by have := hm2.1; omega) hm2.2) rfl bargsT noT ?_
        rintro _ σ' ⟨q66, rfl, rfl⟩ h66
        replace h66 := lnewT h66; repeat rcases h66 with ⟨_, h66⟩
        apply rd_sto; exact nflT
        refine dapA rfl ((ptJ imB im j ++ txtB md ++ txtB nm).map encU) (ptJ imB im j ++ txtB md ++ txtB nm).length ?_
        refine apnT fun r67 h67 => ?_; repeat rcases h67 with ⟨_, h67⟩
        refine dapA rfl ((ptJ imB im j ++ txtB md ++ txtB nm ++ [0]).map encU) (ptJ imB im j ++ txtB md ++ txtB nm ++ [0]).length ?_
        refine apnT fun r69 h69 => ?_; repeat rcases h69 with ⟨_, h69⟩
        refine dclA rfl Tryz.call68 (rf_u tt hm3.1 (by have := hm3.2; omega)) rfl bargsT noT ?_
        rintro _ σ' ⟨q72, rfl, rfl⟩ h72
        replace h72 := lnewT h72; repeat rcases h72 with ⟨_, h72⟩
        apply rd_sto; exact nflT
        refine dapA rfl ((ptJ imB im j ++ txtB md ++ txtB nm ++ [0] ++ numB tt).map encU) (ptJ imB im j ++ txtB md ++ txtB nm ++ [0] ++ numB tt).length ?_
        refine apnT fun r73 h73 => ?_; repeat rcases h73 with ⟨_, h73⟩
        refine sq85 ?_
        refine ⟨(r73, j + 1), ⟨hlt, by show Nq r73 r1; (exact nqT), by show Nq r73 r46; (exact nqT)⟩, by show im.length - (j + 1) < im.length - j; omega, ?_⟩
        dsimp only
        rw [hnx]
        rw [show ptJ imB im j ++ imB ⟨md, nm, tt⟩ = ptJ imB im j ++ txtB md ++ txtB nm ++ [0] ++ numB tt by unfold imB; simp]
        exact sgoT
    · apply hopbs; infer_instance; infer_instance; (exact aevtT); rfl; rfl; rfl; rfl; (exact zcT); rfl; refine freshT fun r68 h68 => ?_; repeat rcases h68 with ⟨_, h68⟩
      refine dclA rfl Tryz.call67 (rf_name md (by have := hm1.1; omega) hm1.2) rfl bargsT noT ?_
      rintro _ σ' ⟨q62, rfl, rfl⟩ h62
      replace h62 := lnewT h62; repeat rcases h62 with ⟨_, h62⟩
      apply rd_sto; exact nflT
      refine dapA rfl ((ptJ imB im j ++ txtB md).map encU) (ptJ imB im j ++ txtB md).length ?_
      refine apnT fun r63 h63 => ?_; repeat rcases h63 with ⟨_, h63⟩
      refine dclA rfl Tryz.call67 (rf_name nm (by have := hm2.1; omega) hm2.2) rfl bargsT noT ?_
      rintro _ σ' ⟨q66, rfl, rfl⟩ h66
      replace h66 := lnewT h66; repeat rcases h66 with ⟨_, h66⟩
      apply rd_sto; exact nflT
      refine dapA rfl ((ptJ imB im j ++ txtB md ++ txtB nm).map encU) (ptJ imB im j ++ txtB md ++ txtB nm).length ?_
      refine apnT fun r67 h67 => ?_; repeat rcases h67 with ⟨_, h67⟩
      refine dapA rfl ((ptJ imB im j ++ txtB md ++ txtB nm ++ [0]).map encU) (ptJ imB im j ++ txtB md ++ txtB nm ++ [0]).length ?_
      refine apnT fun r69 h69 => ?_; repeat rcases h69 with ⟨_, h69⟩
      refine dclA rfl Tryz.call68 (rf_u tt hm3.1 (by have := hm3.2; omega)) rfl bargsT noT ?_
      rintro _ σ' ⟨q72, rfl, rfl⟩ h72
      replace h72 := lnewT h72; repeat rcases h72 with ⟨_, h72⟩
      apply rd_sto; exact nflT
      refine dapA rfl ((ptJ imB im j ++ txtB md ++ txtB nm ++ [0] ++ numB tt).map encU) (ptJ imB im j ++ txtB md ++ txtB nm ++ [0] ++ numB tt).length ?_
      refine apnT fun r73 h73 => ?_; repeat rcases h73 with ⟨_, h73⟩
      refine sq85 ?_
      refine ⟨(r73, j + 1), ⟨hlt, by show Nq r73 r1; (exact nqT), by show Nq r73 r46; (exact nqT)⟩, by show im.length - (j + 1) < im.length - j; omega, ?_⟩
      dsimp only
      rw [hnx]
      rw [show ptJ imB im j ++ imB ⟨md, nm, tt⟩ = ptJ imB im j ++ txtB md ++ txtB nm ++ [0] ++ numB tt by unfold imB; simp]
      exact sgoT
  obtain rfl : j = im.length := by simp at g10; omega
  refine sq53 ?_
  refine sq19 ?_
  refine clA Tryz.call66 (rf_section 2 (by decide) im imB (by omega) (by have := Pim im.length; omega)) rfl bargsT noT ?_
  rintro _ σ' ⟨q79, rfl, rfl⟩ h79
  replace h79 := lnewT h79; repeat rcases h79 with ⟨_, h79⟩
  apply rs_sto; exact nflT
  refine apA ((headB ++ S1 ++ secB 2 im imB).map encU) (headB ++ S1 ++ secB 2 im imB).length ?_
  refine apnT fun r80 h80 => ?_; repeat rcases h80 with ⟨_, h80⟩
  refine sq2 ?_
  generalize secB 2 im imB = S2 at L2 ⊢
  refine sq51 ?_
  refine sw_virt 4 5 1 (by decide) rfl (by decide) (freshT fun q6 hq6 => ?_); repeat rcases hq6 with ⟨_, hq6⟩
  refine sq51 ?_
  refine lp (β := Nat × Nat) (fun b => ⟨[(1, .ptr r1 0), (3, .own r80 0 (headB ++ S1 ++ S2).length), (4, .own b.1 0 (ptJ numB fn b.2).length), (8, .int .i64 b.2)], [(b.1, .arr 5 1 ((ptJ numB fn b.2).map encU)), (r80, .arr 5 1 ((headB ++ S1 ++ S2).map encU)), (r1, .box 33 (encMd ⟨ty, im, fn, tb, me, gl, ex, el, co, da⟩))]⟩) (fun b => b.2 ≤ fn.length ∧ Nq b.1 r1 ∧ Nq b.1 r80) (fun b => fn.length - b.2) (q6, 0) sgoT ⟨Nat.zero_le _, by show Nq q6 r1; (exact nqT), by show Nq q6 r80; (exact nqT)⟩ ?_
  rintro ⟨q1, j⟩ ⟨hj, hqa, hqb⟩
  have hpl := Pfn j
  dsimp only at hj hqa hqb ⊢
  unfold encMd
  dsimp only
  refine sq89 ?_
  refine sw_cond rfl (fun g17 => ?_) (fun g17 => ?_)
  · have hlt : j < fn.length := by simp at g17; omega
    obtain ⟨k, hx⟩ : ∃ x, fn[j]? = some x := ⟨_, List.getElem?_eq_getElem hlt⟩
    have hk := hfn _ (List.mem_of_getElem? hx)
    have ht3 := nB_len hk
    have hnx := ptJ_next (pt := numB) hx
    refine sq53 ?_
    refine sq31 ?_
    refine z16 ?_
    refine clA Tryz.call68 (rf_u k hk.1 (by have := hk.2; omega)) rfl bargsT noT ?_
    rintro _ σ' ⟨q94, rfl, rfl⟩ h94
    replace h94 := lnewT h94; repeat rcases h94 with ⟨_, h94⟩
    apply rs_sto; exact nflT
    refine apA ((ptJ numB fn j ++ numB k).map encU) (ptJ numB fn j ++ numB k).length ?_
    refine apnT fun r95 h95 => ?_; repeat rcases h95 with ⟨_, h95⟩
    refine sq27 ?_
    refine sq37 ?_
    refine ⟨(r95, j + 1), ⟨hlt, by show Nq r95 r1; (exact nqT), by show Nq r95 r80; (exact nqT)⟩, by show fn.length - (j + 1) < fn.length - j; omega, ?_⟩
    dsimp only
    rw [hnx]
    exact sgoT
  obtain rfl : j = fn.length := by simp at g17; omega
  refine sq53 ?_
  refine sq19 ?_
  refine clA Tryz.call66 (rf_section 3 (by decide) fn numB (by omega) (by have := Pfn fn.length; omega)) rfl bargsT noT ?_
  rintro _ σ' ⟨q101, rfl, rfl⟩ h101
  replace h101 := lnewT h101; repeat rcases h101 with ⟨_, h101⟩
  apply rs_sto; exact nflT
  refine apA ((headB ++ S1 ++ S2 ++ secB 3 fn numB).map encU) (headB ++ S1 ++ S2 ++ secB 3 fn numB).length ?_
  refine apnT fun r102 h102 => ?_; repeat rcases h102 with ⟨_, h102⟩
  refine sq2 ?_
  generalize secB 3 fn numB = S3 at L3 ⊢
  obtain ⟨th, tn, tx⟩ := tb
  obtain ⟨eh, en, ex2⟩ := me
  refine rgT ?_
  refine z59 ?_
  refine sq12 ?_
  refine sq6 ?_
  refine sja (β := Nat) (fun q => ⟨[(1, .ptr r1 0), (3, .own q 0 (headB ++ S1 ++ S2 ++ S3 ++ secB 4 (oneL ⟨th, tn, tx⟩) (fun l => 112 :: limB l)).length)], [(q, .arr 5 1 ((headB ++ S1 ++ S2 ++ S3 ++ secB 4 (oneL ⟨th, tn, tx⟩) (fun l => 112 :: limB l)).map encU)), (r1, .box 33 (encMd ⟨ty, im, fn, ⟨th, tn, tx⟩, ⟨eh, en, ex2⟩, gl, ex, el, co, da⟩))]⟩) (fun q => Nq q r1) ?_ ?_
  · refine sw_cond rfl (fun g21 => ?_) (fun g21 => ?_)
    · have htb1 := htb g21
      have hll1 := lim_len htb1
      rw [T1 g21]
      have hpj : ptJ (fun l => 112 :: limB l) [(⟨th, tn, tx⟩ : Li)] [(⟨th, tn, tx⟩ : Li)].length = [112] ++ limB ⟨th, tn, tx⟩ := by simp [ptJ]
      have hsc := rf_section 4 (by decide) [(⟨th, tn, tx⟩ : Li)] (fun l => 112 :: limB l) (by simp) (by rw [hpj]; simp; omega)
      rw [hpj] at hsc
      rw [T1 g21] at L4
      refine sq4 ?_
      refine z1 ?_; refine freshT fun r107 h107 => ?_; repeat rcases h107 with ⟨_, h107⟩
      refine z59 ?_
      refine z99 ?_
      refine clA Tryz.call69 (rf_limits ⟨th, tn, tx⟩ htb1) rfl bargsT noT ?_
      rintro _ σ' ⟨q110, rfl, rfl⟩ h110
      replace h110 := lnewT h110; repeat rcases h110 with ⟨_, h110⟩
      apply rs_sto; exact nflT
      refine apA (([112] ++ limB ⟨th, tn, tx⟩).map encU) ([112] ++ limB ⟨th, tn, tx⟩).length ?_
      refine apnT fun r111 h111 => ?_; repeat rcases h111 with ⟨_, h111⟩
      refine clA Tryz.call66 hsc rfl bargsT noT ?_
      rintro _ σ' ⟨q112, rfl, rfl⟩ h112
      replace h112 := lnewT h112; repeat rcases h112 with ⟨_, h112⟩
      apply rs_sto; exact nflT
      refine apA ((headB ++ S1 ++ S2 ++ S3 ++ secB 4 [⟨th, tn, tx⟩] (fun l => 112 :: limB l)).map encU) (headB ++ S1 ++ S2 ++ S3 ++ secB 4 [⟨th, tn, tx⟩] (fun l => 112 :: limB l)).length ?_
      refine apnT fun r113 h113 => ?_; repeat rcases h113 with ⟨_, h113⟩
      refine sq2 ?_
      exact ⟨r113, (by (exact nqT)), sgoT⟩
    rw [T0 g21, List.append_nil]
    refine ctlT ?_
    exact ⟨r102, (by (exact nqT)), sgoT⟩
  rintro q4 hq4
  generalize secB 4 (oneL ⟨th, tn, tx⟩) (fun l => 112 :: limB l) = S4 at L4 ⊢
  unfold encMd
  dsimp only
  refine sq3 ?_
  refine z59 ?_
  refine sq12 ?_
  refine sq6 ?_
  refine sja (β := Nat) (fun q => ⟨[(1, .ptr r1 0), (3, .own q 0 (headB ++ S1 ++ S2 ++ S3 ++ S4 ++ secB 5 (oneL ⟨eh, en, ex2⟩) limB).length)], [(q, .arr 5 1 ((headB ++ S1 ++ S2 ++ S3 ++ S4 ++ secB 5 (oneL ⟨eh, en, ex2⟩) limB).map encU)), (r1, .box 33 (encMd ⟨ty, im, fn, ⟨th, tn, tx⟩, ⟨eh, en, ex2⟩, gl, ex, el, co, da⟩))]⟩) (fun q => Nq q r1) ?_ ?_
  · refine sw_cond rfl (fun g23 => ?_) (fun g23 => ?_)
    · have hme1 := hme g23
      have hll2 := lim_len hme1
      rw [E1 g23]
      have hpj : ptJ limB [(⟨eh, en, ex2⟩ : Li)] [(⟨eh, en, ex2⟩ : Li)].length = limB ⟨eh, en, ex2⟩ := by simp [ptJ]
      have hsc := rf_section 5 (by decide) [(⟨eh, en, ex2⟩ : Li)] limB (by simp) (by rw [hpj]; omega)
      rw [hpj] at hsc
      rw [E1 g23] at L5
      refine sq4 ?_
      refine z59 ?_
      refine z99 ?_
      refine clA Tryz.call69 (rf_limits ⟨eh, en, ex2⟩ hme1) rfl bargsT noT ?_
      rintro _ σ' ⟨q120, rfl, rfl⟩ h120
      replace h120 := lnewT h120; repeat rcases h120 with ⟨_, h120⟩
      apply rs_sto; exact nflT
      refine clA Tryz.call66 hsc rfl bargsT noT ?_
      rintro _ σ' ⟨q121, rfl, rfl⟩ h121
      replace h121 := lnewT h121; repeat rcases h121 with ⟨_, h121⟩
      apply rs_sto; exact nflT
      refine apA ((headB ++ S1 ++ S2 ++ S3 ++ S4 ++ secB 5 [⟨eh, en, ex2⟩] limB).map encU) (headB ++ S1 ++ S2 ++ S3 ++ S4 ++ secB 5 [⟨eh, en, ex2⟩] limB).length ?_
      refine apnT fun r122 h122 => ?_; repeat rcases h122 with ⟨_, h122⟩
      refine sq2 ?_
      exact ⟨r122, (by (exact nqT)), sgoT⟩
    rw [E0 g23, List.append_nil]
    refine ctlT ?_
    exact ⟨q4, (by (exact nqT)), sgoT⟩
  rintro q7 hq7
  generalize secB 5 (oneL ⟨eh, en, ex2⟩) limB = S5 at L5 ⊢
  unfold encMd
  dsimp only
  refine sq7 ?_
  refine sw_virt 4 5 1 (by decide) rfl (by decide) (freshT fun q8 hq8 => ?_); repeat rcases hq8 with ⟨_, hq8⟩
  refine sq51 ?_
  refine lp (β := Nat × Nat) (fun b => ⟨[(1, .ptr r1 0), (3, .own q7 0 (headB ++ S1 ++ S2 ++ S3 ++ S4 ++ S5).length), (4, .own b.1 0 (ptJ glB gl b.2).length), (9, .int .i64 b.2)], [(b.1, .arr 5 1 ((ptJ glB gl b.2).map encU)), (q7, .arr 5 1 ((headB ++ S1 ++ S2 ++ S3 ++ S4 ++ S5).map encU)), (r1, .box 33 (encMd ⟨ty, im, fn, ⟨th, tn, tx⟩, ⟨eh, en, ex2⟩, gl, ex, el, co, da⟩))]⟩) (fun b => b.2 ≤ gl.length ∧ Nq b.1 r1 ∧ Nq b.1 q7) (fun b => gl.length - b.2) (q8, 0) sgoT ⟨Nat.zero_le _, by show Nq q8 r1; (exact nqT), by show Nq q8 q7; (exact nqT)⟩ ?_
  rintro ⟨q1, j⟩ ⟨hj, hqa, hqb⟩
  have hpl := Pgl j
  dsimp only at hj hqa hqb ⊢
  unfold encMd
  dsimp only
  refine sq89 ?_
  refine sw_cond rfl (fun g27 => ?_) (fun g27 => ?_)
  · have hlt : j < gl.length := by simp at g27; omega
    obtain ⟨⟨mu, k, n⟩, hx⟩ : ∃ x, gl[j]? = some x := ⟨_, List.getElem?_eq_getElem hlt⟩
    obtain ⟨hv, hn⟩ := hgl _ (List.mem_of_getElem? hx)
    dsimp only at hv hn
    have hcl := con_len hv hn
    have hnx := ptJ_next (pt := glB) hx
    refine sq58 ?_
    refine sq31 ?_
    refine z111 ?_
    apply al; rfl; (exact zcT); refine freshT fun r10 h10 => ?_; repeat rcases h10 with ⟨_, h10⟩
    apply stp; rfl; rfl; rfl; rfl; (exact sputT)
    refine leT ?_
    refine sq7 ?_
    refine rgT ?_
    refine sq12 ?_
    refine sq6 ?_
    refine sw_cond rfl (fun g31 => ?_) (fun g31 => ?_)
    · obtain rfl : mu = true := g31
      obtain ⟨z, hz, hzc⟩ : ∃ z : Nat, (if true = true then 1 else 0) = z ∧ ofConst (.int .u8 1) = AV.int .u8 ((z : Nat) : Int) := ⟨1, rfl, rfl⟩
      refine sq7 ?_
      rw [hzc]
      refine rgD [(0, true), (1, true), (2, true), (3, true), (5, true), (8, true), (9, true), (4, false), (6, false), (7, false), (10, false), (11, false), (12, true)] ?_
      refine dlo rfl (lop_move (E rfl)) rfl ?_
      refine z73 ?_
      refine sq20 ?_
      refine dlo rfl (lop_move (E rfl)) rfl ?_
      refine z73 ?_
      refine z96 ?_
      refine dpuA rfl Tryz.call70 (rf_kind k) rfl pargsT nofT ?_
      refine z97 ?_; refine freshT fun r143 h143 => ?_; repeat rcases h143 with ⟨_, h143⟩
      refine dapA rfl ((ptJ glB gl j ++ [if (k == 1) = true then 127 else 126, z]).map encU) (ptJ glB gl j ++ [if (k == 1) = true then 127 else 126, z]).length ?_
      refine apnT fun r144 h144 => ?_; repeat rcases h144 with ⟨_, h144⟩
      refine dclA rfl Tryz.call71 (rf_constant k n hv hn) rfl bargsT noT ?_
      rintro _ σ' ⟨q147, rfl, rfl⟩ h147
      replace h147 := lnewT h147; repeat rcases h147 with ⟨_, h147⟩
      apply rd_sto; exact nflT
      refine dapA rfl ((ptJ glB gl j ++ [if (k == 1) = true then 127 else 126, z] ++ conB k n).map encU) (ptJ glB gl j ++ [if (k == 1) = true then 127 else 126, z] ++ conB k n).length ?_
      refine apnT fun r148 h148 => ?_; repeat rcases h148 with ⟨_, h148⟩
      refine sq85 ?_
      refine ⟨(r148, j + 1), ⟨hlt, by show Nq r148 r1; (exact nqT), by show Nq r148 q7; (exact nqT)⟩, by show gl.length - (j + 1) < gl.length - j; omega, ?_⟩
      dsimp only
      rw [hnx]
      rw [gl_next hz]
      exact sgoT
    obtain rfl : mu = false := g31
    obtain ⟨z, hz, hzc⟩ : ∃ z : Nat, (if false = true then 1 else 0) = z ∧ ofConst (.int .u8 0) = AV.int .u8 ((z : Nat) : Int) := ⟨0, rfl, rfl⟩
    refine ctlT ?_
    rw [hzc]
    refine rgD [(0, true), (1, true), (2, true), (3, true), (5, true), (8, true), (9, true), (4, false), (6, false), (7, false), (10, false), (11, false), (12, true)] ?_
    refine dlo rfl (lop_move (E rfl)) rfl ?_
    refine z73 ?_
    refine sq20 ?_
    refine dlo rfl (lop_move (E rfl)) rfl ?_
    refine z73 ?_
    refine z96 ?_
    refine dpuA rfl Tryz.call70 (rf_kind k) rfl pargsT nofT ?_
    refine z97 ?_; refine freshT fun r143 h143 => ?_; repeat rcases h143 with ⟨_, h143⟩
    refine dapA rfl ((ptJ glB gl j ++ [if (k == 1) = true then 127 else 126, z]).map encU) (ptJ glB gl j ++ [if (k == 1) = true then 127 else 126, z]).length ?_
    refine apnT fun r144 h144 => ?_; repeat rcases h144 with ⟨_, h144⟩
    refine dclA rfl Tryz.call71 (rf_constant k n hv hn) rfl bargsT noT ?_
    rintro _ σ' ⟨q147, rfl, rfl⟩ h147
    replace h147 := lnewT h147; repeat rcases h147 with ⟨_, h147⟩
    apply rd_sto; exact nflT
    refine dapA rfl ((ptJ glB gl j ++ [if (k == 1) = true then 127 else 126, z] ++ conB k n).map encU) (ptJ glB gl j ++ [if (k == 1) = true then 127 else 126, z] ++ conB k n).length ?_
    refine apnT fun r148 h148 => ?_; repeat rcases h148 with ⟨_, h148⟩
    refine sq85 ?_
    refine ⟨(r148, j + 1), ⟨hlt, by show Nq r148 r1; (exact nqT), by show Nq r148 q7; (exact nqT)⟩, by show gl.length - (j + 1) < gl.length - j; omega, ?_⟩
    dsimp only
    rw [hnx]
    rw [gl_next hz]
    exact sgoT
  obtain rfl : j = gl.length := by simp at g27; omega
  refine sq53 ?_
  refine sq19 ?_
  refine clA Tryz.call66 (rf_section 6 (by decide) gl glB (by omega) (by have := Pgl gl.length; omega)) rfl bargsT noT ?_
  rintro _ σ' ⟨q154, rfl, rfl⟩ h154
  replace h154 := lnewT h154; repeat rcases h154 with ⟨_, h154⟩
  apply rs_sto; exact nflT
  refine apA ((headB ++ S1 ++ S2 ++ S3 ++ S4 ++ S5 ++ secB 6 gl glB).map encU) (headB ++ S1 ++ S2 ++ S3 ++ S4 ++ S5 ++ secB 6 gl glB).length ?_
  refine apnT fun r155 h155 => ?_; repeat rcases h155 with ⟨_, h155⟩
  refine sq2 ?_
  generalize secB 6 gl glB = S6 at L6 ⊢
  refine sq51 ?_
  refine sw_virt 4 5 1 (by decide) rfl (by decide) (freshT fun q9 hq9 => ?_); repeat rcases hq9 with ⟨_, hq9⟩
  refine sq51 ?_
  refine lp (β := Nat × Nat) (fun b => ⟨[(1, .ptr r1 0), (3, .own r155 0 (headB ++ S1 ++ S2 ++ S3 ++ S4 ++ S5 ++ S6).length), (4, .own b.1 0 (ptJ exB ex b.2).length), (12, .int .i64 b.2)], [(b.1, .arr 5 1 ((ptJ exB ex b.2).map encU)), (r155, .arr 5 1 ((headB ++ S1 ++ S2 ++ S3 ++ S4 ++ S5 ++ S6).map encU)), (r1, .box 33 (encMd ⟨ty, im, fn, ⟨th, tn, tx⟩, ⟨eh, en, ex2⟩, gl, ex, el, co, da⟩))]⟩) (fun b => b.2 ≤ ex.length ∧ Nq b.1 r1 ∧ Nq b.1 r155) (fun b => ex.length - b.2) (q9, 0) sgoT ⟨Nat.zero_le _, by show Nq q9 r1; (exact nqT), by show Nq q9 r155; (exact nqT)⟩ ?_
  rintro ⟨q1, j⟩ ⟨hj, hqa, hqb⟩
  have hpl := Pex j
  dsimp only at hj hqa hqb ⊢
  unfold encMd
  dsimp only
  refine sq89 ?_
  refine sw_cond rfl (fun g37 => ?_) (fun g37 => ?_)
  · have hlt : j < ex.length := by simp at g37; omega
    obtain ⟨⟨nm, ff⟩, hx⟩ : ∃ x, ex[j]? = some x := ⟨_, List.getElem?_eq_getElem hlt⟩
    obtain ⟨hm1, hm2⟩ := hex _ (List.mem_of_getElem? hx)
    dsimp only at hm1 hm2
    have ht1 := tB_len hm1
    have ht2 := nB_len hm2
    have hnx := ptJ_next (pt := exB) hx
    refine ctlT ?_
    refine rgD [(0, true), (1, true), (2, true), (3, true), (4, true), (5, true), (6, true), (11, true), (12, true), (13, true), (14, true), (15, true), (16, true), (20, false), (20, false), (20, false), (20, false), (20, false), (20, false), (20, false)] ?_
    refine sq44 ?_
    refine sq18 ?_
    refine sq74 ?_
    refine sq87 ?_
    refine rd_fork2 7 9 [(20, false), (20, false), (20, false), (20, false), (20, false), (20, false)] [(7, false), (8, false), (10, false), (17, false), (18, false), (19, true)] (f1 := []) (f2 := []) (by kernel_rfl) rfl rfl ?_ ?_ (.inl rfl) (.inl rfl)
    · refine hop_call_lentA Tryz.call67 (rf_name nm (by have := hm1.1; omega) hm1.2) (lt_ble rfl) ?_
      rintro _ σ' ⟨q170, rfl, rfl⟩ h170
      replace h170 := lnewT h170; repeat rcases h170 with ⟨_, h170⟩
      apply rd_sto; exact nflT
      refine rd_fork2 8 9 [(9, false), (10, false), (17, false), (18, false), (19, true)] [(8, false), (10, false), (17, false), (18, false), (19, true)] (f1 := [q1]) (f2 := []) (by kernel_rfl) rfl rfl ?_ ?_ (.inr ⟨by simp, hbtT⟩) (.inl rfl)
      · refine hapA ((ptJ exB ex j ++ txtB nm).map encU) (ptJ exB ex j ++ txtB nm).length ?_
        refine apnT fun r171 h171 => ?_; repeat rcases h171 with ⟨_, h171⟩
        refine z97 ?_; refine freshT fun r172 h172 => ?_; repeat rcases h172 with ⟨_, h172⟩
        refine dapA rfl ((ptJ exB ex j ++ txtB nm ++ [0]).map encU) (ptJ exB ex j ++ txtB nm ++ [0]).length ?_
        refine apnT fun r173 h173 => ?_; repeat rcases h173 with ⟨_, h173⟩
        refine dclA rfl Tryz.call68 (rf_u ff hm2.1 (by have := hm2.2; omega)) rfl bargsT noT ?_
        rintro _ σ' ⟨q180, rfl, rfl⟩ h180
        replace h180 := lnewT h180; repeat rcases h180 with ⟨_, h180⟩
        apply rd_sto; exact nflT
        refine dapA rfl ((ptJ exB ex j ++ txtB nm ++ [0] ++ numB ff).map encU) (ptJ exB ex j ++ txtB nm ++ [0] ++ numB ff).length ?_
        refine apnT fun r181 h181 => ?_; repeat rcases h181 with ⟨_, h181⟩
        refine sq85 ?_
        refine ⟨(r181, j + 1), ⟨hlt, by show Nq r181 r1; (exact nqT), by show Nq r181 r155; (exact nqT)⟩, by show ex.length - (j + 1) < ex.length - j; omega, ?_⟩
        dsimp only
        rw [hnx]
        rw [show ptJ exB ex j ++ exB ⟨nm, ff⟩ = ptJ exB ex j ++ txtB nm ++ [0] ++ numB ff by unfold exB; simp]
        exact sgoT
      · apply hopbs; infer_instance; infer_instance; (exact aevtT); rfl; rfl; rfl; rfl; (exact zcT); rfl; refine freshT fun r172 h172 => ?_; repeat rcases h172 with ⟨_, h172⟩
        refine dapA rfl ((ptJ exB ex j ++ txtB nm).map encU) (ptJ exB ex j ++ txtB nm).length ?_
        refine apnT fun r171 h171 => ?_; repeat rcases h171 with ⟨_, h171⟩
        refine dapA rfl ((ptJ exB ex j ++ txtB nm ++ [0]).map encU) (ptJ exB ex j ++ txtB nm ++ [0]).length ?_
        refine apnT fun r173 h173 => ?_; repeat rcases h173 with ⟨_, h173⟩
        refine dclA rfl Tryz.call68 (rf_u ff hm2.1 (by have := hm2.2; omega)) rfl bargsT noT ?_
        rintro _ σ' ⟨q180, rfl, rfl⟩ h180
        replace h180 := lnewT h180; repeat rcases h180 with ⟨_, h180⟩
        apply rd_sto; exact nflT
        refine dapA rfl ((ptJ exB ex j ++ txtB nm ++ [0] ++ numB ff).map encU) (ptJ exB ex j ++ txtB nm ++ [0] ++ numB ff).length ?_
        refine apnT fun r181 h181 => ?_; repeat rcases h181 with ⟨_, h181⟩
        refine sq85 ?_
        refine ⟨(r181, j + 1), ⟨hlt, by show Nq r181 r1; (exact nqT), by show Nq r181 r155; (exact nqT)⟩, by show ex.length - (j + 1) < ex.length - j; omega, ?_⟩
        dsimp only
        rw [hnx]
        rw [show ptJ exB ex j ++ exB ⟨nm, ff⟩ = ptJ exB ex j ++ txtB nm ++ [0] ++ numB ff by unfold exB; simp]
        exact sgoT
    · apply hopbs; infer_instance; infer_instance; (exact aevtT); rfl; rfl; rfl; rfl; (exact zcT); rfl; refine freshT fun r172 h172 => ?_; repeat rcases h172 with ⟨_, h172⟩
      refine dclA rfl Tryz.call67 (rf_name nm (by have := hm1.1; omega) hm1.2) rfl bargsT noT ?_
      rintro _ σ' ⟨q170, rfl, rfl⟩ h170
      replace h170 := lnewT h170; repeat rcases h170 with ⟨_, h170⟩
      apply rd_sto; exact nflT
      refine dapA rfl ((ptJ exB ex j ++ txtB nm).map encU) (ptJ exB ex j ++ txtB nm).length ?_
      refine apnT fun r171 h171 => ?_; repeat rcases h171 with ⟨_, h171⟩
      refine dapA rfl ((ptJ exB ex j ++ txtB nm ++ [0]).map encU) (ptJ exB ex j ++ txtB nm ++ [0]).length ?_
      refine apnT fun r173 h173 => ?_; repeat rcases h173 with ⟨_, h173⟩
      refine dclA rfl Tryz.call68 (rf_u ff hm2.1 (by have := hm2.2; omega)) rfl bargsT noT ?_
      rintro _ σ' ⟨q180, rfl, rfl⟩ h180
      replace h180 := lnewT h180; repeat rcases h180 with ⟨_, h180⟩
      apply rd_sto; exact nflT
      refine dapA rfl ((ptJ exB ex j ++ txtB nm ++ [0] ++ numB ff).map encU) (ptJ exB ex j ++ txtB nm ++ [0] ++ numB ff).length ?_
      refine apnT fun r181 h181 => ?_; repeat rcases h181 with ⟨_, h181⟩
      refine sq85 ?_
      refine ⟨(r181, j + 1), ⟨hlt, by show Nq r181 r1; (exact nqT), by show Nq r181 r155; (exact nqT)⟩, by show ex.length - (j + 1) < ex.length - j; omega, ?_⟩
      dsimp only
      rw [hnx]
      rw [show ptJ exB ex j ++ exB ⟨nm, ff⟩ = ptJ exB ex j ++ txtB nm ++ [0] ++ numB ff by unfold exB; simp]
      exact sgoT
  obtain rfl : j = ex.length := by simp at g37; omega
  refine sq53 ?_
  refine sq19 ?_
  refine clA Tryz.call66 (rf_section 7 (by decide) ex exB (by omega) (by have := Pex ex.length; omega)) rfl bargsT noT ?_
  rintro _ σ' ⟨q187, rfl, rfl⟩ h187
  replace h187 := lnewT h187; repeat rcases h187 with ⟨_, h187⟩
  apply rs_sto; exact nflT
  refine apA ((headB ++ S1 ++ S2 ++ S3 ++ S4 ++ S5 ++ S6 ++ secB 7 ex exB).map encU) (headB ++ S1 ++ S2 ++ S3 ++ S4 ++ S5 ++ S6 ++ secB 7 ex exB).length ?_
  refine apnT fun r188 h188 => ?_; repeat rcases h188 with ⟨_, h188⟩
  refine sq2 ?_
  generalize secB 7 ex exB = S7 at L7 ⊢
  refine sq1 ?_
  refine z99 ?_
  refine clA Tryz.call72 hlate rfl bargsT noT ?_
  rintro _ σ' ⟨q191, rfl, rfl⟩ h191
  replace h191 := lnewT h191; repeat rcases h191 with ⟨_, h191⟩
  apply rs_sto; exact nflT
  refine apA ((headB ++ S1 ++ S2 ++ S3 ++ S4 ++ S5 ++ S6 ++ S7 ++ SL).map encU) (headB ++ S1 ++ S2 ++ S3 ++ S4 ++ S5 ++ S6 ++ S7 ++ SL).length ?_
  refine apnT fun r192 h192 => ?_; repeat rcases h192 with ⟨_, h192⟩
  refine sq2 ?_
  apply aend; exact resT
  · exact ⟨r192, rfl, rfl⟩
  · exact stleT
/-
  The document's bytes of a module: elements, codes, data.
-/
theorem rf_later (m : Md) (h : m.G) : SCall Tryz.prog 72 [.agg (encMd m)] [] (fun y σ => ∃ q, y = .own q 0 (lateB m).length ∧ σ = [(q, .arr 5 1 ((lateB m).map encU))]) := by
  obtain ⟨-, -, -, -, -, -, -, ⟨nel, hel⟩, ⟨nco, hco⟩, ⟨nda, hda⟩⟩ := h
  obtain ⟨ty, im, fn, tb, me, gl, ex, el, co, da⟩ := m
  dsimp only at nel hel nco hco nda hda
  obtain ⟨L1, Pel⟩ := secB_le 9 elB 5300 nel (by decide) fun x hx => elB_len (hel x hx)
  obtain ⟨L2, Pco⟩ := secB_le 10 codB 70000 nco (by decide) fun x hx => coB_len (hco x hx)
  obtain ⟨L3, Pda⟩ := secB_le 11 daB 1300 nda (by decide) fun x hx => daB_len (hda x hx)
  have hW : lateB ⟨ty, im, fn, tb, me, gl, ex, el, co, da⟩ = secB 9 el elB ++ secB 10 co codB ++ secB 11 da daB := rfl
  rw [hW]
  refine scall_of (n := 119) (ks := [0, 1, 2, 3, 4, 5, 6, 7, 8, 13, 47, 82]) Tryz.func72 rfl rfl (Nat.le_of_ble_eq_true rfl) ?_
  unfold encMd
  dsimp only
  refine sq3 ?_
  apply bx; rfl; rfl; (exact zcT); rfl; refine freshT fun r1 h1 => ?_; repeat rcases h1 with ⟨_, h1⟩
  refine sq22 ?_
  refine sq14 ?_
  refine sw_virt 3 5 1 (by decide) rfl (by decide) (freshT fun q3 hq3 => ?_); repeat rcases hq3 with ⟨_, hq3⟩
  refine sw_virt 4 5 1 (by decide) rfl (by decide) (freshT fun q4 hq4 => ?_); repeat rcases hq4 with ⟨_, hq4⟩
  refine sq51 ?_
  refine lp (β := Nat × Nat) (fun b => ⟨[(1, .ptr r1 0), (3, .own q3 0 (([] : List Nat)).length), (4, .own b.1 0 (ptJ elB el b.2).length), (5, .int .i64 b.2)], [(b.1, .arr 5 1 ((ptJ elB el b.2).map encU)), (q3, .arr 5 1 ((([] : List Nat)).map encU)), (r1, .box 33 (encMd ⟨ty, im, fn, tb, me, gl, ex, el, co, da⟩))]⟩) (fun b => b.2 ≤ el.length ∧ Nq b.1 r1 ∧ Nq b.1 q3) (fun b => el.length - b.2) (q4, 0) sgoT ⟨Nat.zero_le _, by show Nq q4 r1; (exact nqT), by show Nq q4 q3; (exact nqT)⟩ ?_
  rintro ⟨q1, j⟩ ⟨hj, hqa, hqb⟩
  have hpl := Pel j
  dsimp only at hj hqa hqb ⊢
  unfold encMd
  dsimp only
  refine sq89 ?_
  refine sw_cond rfl (fun g3 => ?_) (fun g3 => ?_)
  · have hlt : j < el.length := by simp at g3; omega
    obtain ⟨⟨oo, fs⟩, hx⟩ : ∃ x, el[j]? = some x := ⟨_, List.getElem?_eq_getElem hlt⟩
    obtain ⟨ho, hf1, hf2⟩ := hel _ (List.mem_of_getElem? hx)
    dsimp only at ho hf1 hf2
    have hr : -2147483648 ≤ oo ∧ oo ≤ 2147483647 := by (have h := ho; unfold offN at h; simpa using h)
    have hv : valN 1 oo = true := by unfold valN; simp; omega
    have hcl := con_len hv (by omega)
    have hvl := vec_len (pt := numB) (l := fs) (c := 5) (fun n hn => nB_len (hf2 n hn)) hf1
    have hnx := ptJ_next (pt := elB) hx
    refine ctlT ?_
    refine rgD [(0, true), (3, true), (4, true), (5, true), (6, true), (7, true), (8, true), (9, true), (12, true), (13, true), (14, true), (15, true), (16, true), (17, true), (1, false), (2, false), (10, false), (11, false), (18, false), (19, false), (20, true)] ?_
    refine sq44 ?_
    refine sq18 ?_
    refine sq74 ?_
    refine z94 ?_
    refine sq87 ?_
    refine z97 ?_; refine freshT fun r17 h17 => ?_; repeat rcases h17 with ⟨_, h17⟩
    refine dapA rfl ((ptJ elB el j ++ [0]).map encU) (ptJ elB el j ++ [0]).length ?_
    refine apnT fun r18 h18 => ?_; repeat rcases h18 with ⟨_, h18⟩
    refine dclA rfl Tryz.call71 (rf_constant 1 oo hv (by omega)) rfl bargsT noT ?_
    rintro _ σ' ⟨q26, rfl, rfl⟩ h26
    replace h26 := lnewT h26; repeat rcases h26 with ⟨_, h26⟩
    apply rd_sto; exact nflT
    refine dapA rfl ((ptJ elB el j ++ [0] ++ conB 1 oo).map encU) (ptJ elB el j ++ [0] ++ conB 1 oo).length ?_
    refine apnT fun r27 h27 => ?_; repeat rcases h27 with ⟨_, h27⟩
    refine dclA rfl Tryz.call153 (rf_numbers fs hf1 (fun n hn => ⟨(hf2 n hn).1, by have := (hf2 n hn).2; omega⟩)) rfl bargsT noT ?_
    rintro _ σ' ⟨q34, rfl, rfl⟩ h34
    replace h34 := lnewT h34; repeat rcases h34 with ⟨_, h34⟩
    apply rd_sto; exact nflT
    refine dapA rfl ((ptJ elB el j ++ [0] ++ conB 1 oo ++ vecB fs numB).map encU) (ptJ elB el j ++ [0] ++ conB 1 oo ++ vecB fs numB).length ?_
    refine apnT fun r35 h35 => ?_; repeat rcases h35 with ⟨_, h35⟩
    refine sq85 ?_
    refine ⟨(r35, j + 1), ⟨hlt, by show Nq r35 r1; (exact nqT), by show Nq r35 q3; (exact nqT)⟩, by show el.length - (j + 1) < el.length - j; omega, ?_⟩
    dsimp only
    rw [hnx]
    rw [show ptJ elB el j ++ elB ⟨oo, fs⟩ = ptJ elB el j ++ [0] ++ conB 1 oo ++ vecB fs numB by unfold elB plcB; simp]
    exact sgoT
  obtain rfl : j = el.length := by simp at g3; omega
  refine sq53 ?_
  refine sq19 ?_
  refine clA Tryz.call66 (rf_section 9 (by decide) el elB (by omega) (by have := Pel el.length; omega)) rfl bargsT noT ?_
  rintro _ σ' ⟨q41, rfl, rfl⟩ h41
  replace h41 := lnewT h41; repeat rcases h41 with ⟨_, h41⟩
  apply rs_sto; exact nflT
  refine apA ((secB 9 el elB).map encU) (secB 9 el elB).length ?_
  refine apnT fun r42 h42 => ?_; repeat rcases h42 with ⟨_, h42⟩
  refine sq2 ?_
  generalize secB 9 el elB = S1 at L1 ⊢
  refine sq51 ?_
  refine sw_virt 4 5 1 (by decide) rfl (by decide) (freshT fun q5 hq5 => ?_); repeat rcases hq5 with ⟨_, hq5⟩
  refine sq51 ?_
  refine lp (β := Nat × Nat) (fun b => ⟨[(1, .ptr r1 0), (3, .own r42 0 (S1).length), (4, .own b.1 0 (ptJ codB co b.2).length), (6, .int .i64 b.2)], [(b.1, .arr 5 1 ((ptJ codB co b.2).map encU)), (r42, .arr 5 1 ((S1).map encU)), (r1, .box 33 (encMd ⟨ty, im, fn, tb, me, gl, ex, el, co, da⟩))]⟩) (fun b => b.2 ≤ co.length ∧ Nq b.1 r1 ∧ Nq b.1 r42) (fun b => co.length - b.2) (q5, 0) sgoT ⟨Nat.zero_le _, by show Nq q5 r1; (exact nqT), by show Nq q5 r42; (exact nqT)⟩ ?_
  rintro ⟨q1, j⟩ ⟨hj, hqa, hqb⟩
  have hpl := Pco j
  dsimp only at hj hqa hqb ⊢
  unfold encMd
  dsimp only
  refine sq89 ?_
  refine sw_cond rfl (fun g9 => ?_) (fun g9 => ?_)
  · have hlt : j < co.length := by simp at g9; omega
    obtain ⟨⟨ls, bd⟩, hx⟩ : ∃ x, co[j]? = some x := ⟨_, List.getElem?_eq_getElem hlt⟩
    obtain ⟨hc1, hc2, hc3⟩ := hco _ (List.mem_of_getElem? hx)
    dsimp only at hc1 hc2 hc3
    have hlo := loB_len hc1
    have hpl2 := putL_len hc3
    have hPl : (vecB (runsN ls) runB ++ putL bd).length ≤ 66000 := by rw [List.length_append]; omega
    have hcd : codB ⟨ls, bd⟩ = uB (vecB (runsN ls) runB ++ putL bd).length ++ (vecB (runsN ls) runB ++ putL bd) := rfl
    have hub := uB_len 4 (vecB (runsN ls) runB ++ putL bd).length (by omega)
    have hnx := ptJ_next (pt := codB) hx
    refine ctlT ?_
    refine rgD [(0, true), (1, true), (2, true), (3, true), (4, true), (5, true), (7, true), (8, true), (9, true), (10, true), (11, true), (12, true), (6, false), (13, false), (14, false), (15, true)] ?_
    refine sq87 ?_
    refine sq87 ?_
    refine dclA rfl Tryz.call154 (rf_locals ls hc1) rfl bargsT noT ?_
    rintro _ σ' ⟨q56, rfl, rfl⟩ h56
    replace h56 := lnewT h56; repeat rcases h56 with ⟨_, h56⟩
    apply rd_sto; exact nflT
    refine dclA rfl Tryz.call155 (ref_putBody bd hc2 hc3) rfl bargsT noT ?_
    rintro _ σ' ⟨q63, rfl, rfl⟩ h63
    replace h63 := lnewT h63; repeat rcases h63 with ⟨_, h63⟩
    apply rd_sto; exact nflT
    refine dapA rfl ((vecB (runsN ls) runB ++ putL bd).map encU) (vecB (runsN ls) runB ++ putL bd).length ?_
    refine apnT fun r64 h64 => ?_; repeat rcases h64 with ⟨_, h64⟩
    refine sq68 ?_
    generalize vecB (runsN ls) runB ++ putL bd = P at hPl hub hcd ⊢
    refine sq13 ?_
    refine sq19 ?_
    refine clA Tryz.call150 (rf_vec (k := .any) P.length P (by omega) (by omega)) rfl bargsT noT ?_
    rintro _ σ' ⟨q69, rfl, rfl⟩ h69
    replace h69 := lnewT h69; repeat rcases h69 with ⟨_, h69⟩
    apply rs_sto; exact nflT
    refine apA ((ptJ codB co j ++ (uB P.length ++ P)).map encU) (ptJ codB co j ++ (uB P.length ++ P)).length ?_
    refine apnT fun r70 h70 => ?_; repeat rcases h70 with ⟨_, h70⟩
    refine sq27 ?_
    refine sq37 ?_
    refine ⟨(r70, j + 1), ⟨hlt, by show Nq r70 r1; (exact nqT), by show Nq r70 r42; (exact nqT)⟩, by show co.length - (j + 1) < co.length - j; omega, ?_⟩
    dsimp only
    rw [hnx]
    rw [hcd]
    exact sgoT
  obtain rfl : j = co.length := by simp at g9; omega
  refine sq53 ?_
  refine sq19 ?_
  refine clA Tryz.call66 (rf_section 10 (by decide) co codB (by omega) (by have := Pco co.length; omega)) rfl bargsT noT ?_
  rintro _ σ' ⟨q76, rfl, rfl⟩ h76
  replace h76 := lnewT h76; repeat rcases h76 with ⟨_, h76⟩
  apply rs_sto; exact nflT
  refine apA ((S1 ++ secB 10 co codB).map encU) (S1 ++ secB 10 co codB).length ?_
  refine apnT fun r77 h77 => ?_; repeat rcases h77 with ⟨_, h77⟩
  refine sq2 ?_
  generalize secB 10 co codB = S2 at L2 ⊢
  refine sq51 ?_
  refine sw_virt 4 5 1 (by decide) rfl (by decide) (freshT fun q6 hq6 => ?_); repeat rcases hq6 with ⟨_, hq6⟩
  refine sq51 ?_
  refine lp (β := Nat × Nat) (fun b => ⟨[(1, .ptr r1 0), (3, .own r77 0 (S1 ++ S2).length), (4, .own b.1 0 (ptJ daB da b.2).length), (8, .int .i64 b.2)], [(b.1, .arr 5 1 ((ptJ daB da b.2).map encU)), (r77, .arr 5 1 ((S1 ++ S2).map encU)), (r1, .box 33 (encMd ⟨ty, im, fn, tb, me, gl, ex, el, co, da⟩))]⟩) (fun b => b.2 ≤ da.length ∧ Nq b.1 r1 ∧ Nq b.1 r77) (fun b => da.length - b.2) (q6, 0) sgoT ⟨Nat.zero_le _, by show Nq q6 r1; (exact nqT), by show Nq q6 r77; (exact nqT)⟩ ?_
  rintro ⟨q1, j⟩ ⟨hj, hqa, hqb⟩
  have hpl := Pda j
  dsimp only at hj hqa hqb ⊢
  unfold encMd
  dsimp only
  refine sq89 ?_
  refine sw_cond rfl (fun g16 => ?_) (fun g16 => ?_)
  · have hlt : j < da.length := by simp at g16; omega
    obtain ⟨⟨oo, bs⟩, hx⟩ : ∃ x, da[j]? = some x := ⟨_, List.getElem?_eq_getElem hlt⟩
    obtain ⟨ho, hf1⟩ := hda _ (List.mem_of_getElem? hx)
    dsimp only at ho hf1
    have hr : -2147483648 ≤ oo ∧ oo ≤ 2147483647 := by (have h := ho; unfold offN at h; simpa using h)
    have hv : valN 1 oo = true := by unfold valN; simp; omega
    have hcl := con_len hv (by omega)
    have hub := uB_len 4 bs.length (by omega)
    have hnx := ptJ_next (pt := daB) hx
    refine ctlT ?_
    refine rgD [(0, true), (3, true), (4, true), (5, true), (6, true), (7, true), (8, true), (9, true), (12, true), (13, true), (14, true), (15, true), (16, true), (17, true), (18, true), (19, true), (20, true), (21, true), (22, true), (23, true), (24, true), (1, false), (2, false), (10, false), (11, false), (25, false), (26, false), (27, true)] ?_
    refine sq44 ?_
    refine sq18 ?_
    refine sq74 ?_
    refine z94 ?_
    refine sq87 ?_
    refine z78 ?_
    refine sq87 ?_
    refine z97 ?_; refine freshT fun r86 h86 => ?_; repeat rcases h86 with ⟨_, h86⟩
    refine dapA rfl ((ptJ daB da j ++ [0]).map encU) (ptJ daB da j ++ [0]).length ?_
    refine apnT fun r87 h87 => ?_; repeat rcases h87 with ⟨_, h87⟩
    refine dclA rfl Tryz.call71 (rf_constant 1 oo hv (by omega)) rfl bargsT noT ?_
    rintro _ σ' ⟨q95, rfl, rfl⟩ h95
    replace h95 := lnewT h95; repeat rcases h95 with ⟨_, h95⟩
    apply rd_sto; exact nflT
    refine dapA rfl ((ptJ daB da j ++ [0] ++ conB 1 oo).map encU) (ptJ daB da j ++ [0] ++ conB 1 oo).length ?_
    refine apnT fun r96 h96 => ?_; repeat rcases h96 with ⟨_, h96⟩
    refine dclA rfl Tryz.call150 (rf_vec (k := .any) bs.length bs (by omega) (by omega)) rfl bargsT noT ?_
    rintro _ σ' ⟨q110, rfl, rfl⟩ h110
    replace h110 := lnewT h110; repeat rcases h110 with ⟨_, h110⟩
    apply rd_sto; exact nflT
    refine dapA rfl ((ptJ daB da j ++ [0] ++ conB 1 oo ++ (uB bs.length ++ bs)).map encU) (ptJ daB da j ++ [0] ++ conB 1 oo ++ (uB bs.length ++ bs)).length ?_
    refine apnT fun r111 h111 => ?_; repeat rcases h111 with ⟨_, h111⟩
    refine sq85 ?_
    refine ⟨(r111, j + 1), ⟨hlt, by show Nq r111 r1; (exact nqT), by show Nq r111 r77; (exact nqT)⟩, by show da.length - (j + 1) < da.length - j; omega, ?_⟩
    dsimp only
    rw [hnx]
    rw [show ptJ daB da j ++ daB ⟨oo, bs⟩ = ptJ daB da j ++ [0] ++ conB 1 oo ++ (uB bs.length ++ bs) by unfold daB plcB; simp]
    exact sgoT
  obtain rfl : j = da.length := by simp at g16; omega
  refine sq53 ?_
  refine sq19 ?_
  refine clA Tryz.call66 (rf_section 11 (by decide) da daB (by omega) (by have := Pda da.length; omega)) rfl bargsT noT ?_
  rintro _ σ' ⟨q117, rfl, rfl⟩ h117
  replace h117 := lnewT h117; repeat rcases h117 with ⟨_, h117⟩
  apply rs_sto; exact nflT
  refine apA ((S1 ++ S2 ++ secB 11 da daB).map encU) (S1 ++ S2 ++ secB 11 da daB).length ?_
  refine apnT fun r118 h118 => ?_; repeat rcases h118 with ⟨_, h118⟩
  refine sq2 ?_
  apply aend; exact resT
  · exact ⟨r118, rfl, rfl⟩
  · exact stleT
theorem lateB_len {m : Md} (h : m.G) : (lateB m).length ≤ 10000000 := by
  obtain ⟨-, -, -, -, -, -, -, ⟨nel, hel⟩, ⟨nco, hco⟩, ⟨nda, hda⟩⟩ := h
  obtain ⟨L1, -⟩ := secB_le 9 elB 5300 nel (by decide) fun x hx => elB_len (hel x hx)
  obtain ⟨L2, -⟩ := secB_le 10 codB 70000 nco (by decide) fun x hx => coB_len (hco x hx)
  obtain ⟨L3, -⟩ := secB_le 11 daB 1300 nda (by decide) fun x hx => daB_len (hda x hx)
  unfold lateB
  rw [List.length_append, List.length_append]
  omega
theorem ref_bytes (m : Md) (h : m.G) : SCall Tryz.prog 18 [.agg (encMd m)] [] (fun y σ => ∃ q, y = .own q 0 (writB m).length ∧ σ = [(q, .arr 5 1 ((writB m).map encU))]) := rf_bytes m h (rf_later m h) (lateB_len h)
/-
  The document's word on which modules may be.
-/
/-- the lists are not too long to be counted -/
structure Md.Z (m : Md) : Prop where
  ty : m.ty.length ≤ 1000000 ∧ ∀ x ∈ m.ty, x.pr.length ≤ 1000000 ∧ x.rs.length ≤ 1000000
  im : m.im.length ≤ 1000000
  fn : m.fn.length ≤ 1000000
  gl : m.gl.length ≤ 1000000
  ex : m.ex.length ≤ 1000000
  el : m.el.length ≤ 1000000 ∧ ∀ x ∈ m.el, x.fs.length ≤ 1000000
  co : m.co.length ≤ 1000000 ∧ ∀ x ∈ m.co, x.ls.length ≤ 1000000
  da : m.da.length ≤ 1000000 ∧ ∀ x ∈ m.da, x.bs.length ≤ 1000000
/-
  The document's May.
-/
theorem or7 (a b c d e f g : Bool) : (if (if (if (if (if (if a = true then true else b) = true then true else c) = true then true else d) = true then true else e) = true then true else f) = true then true else g) = (a || b || c || d || e || f || g) := by
  cases a <;> cases b <;> cases c <;> cases d <;> cases e <;> cases f <;> cases g <;> rfl
theorem not_some {a b : Bool} (h : (if (!a) = true then true else !b) = true) : (a && b) = false := by cases a <;> cases b <;> simp_all
theorem not_none {a b : Bool} (h : (if (!a) = true then true else !b) = false) : (a && b) = true := by cases a <;> cases b <;> simp_all
end Go.Proofs.YtfihcehdoikfkaaGreat
/-
  Parts of modules against one another.
-/
namespace Go.Proofs.YtfihcehdoikfkaaGreat
open Go.RowKit Go.ChangeShapes Go.WideShapes Go.ChangeAt Go.Deep
theorem agg_l2 {M : Mp} {F : Nat → Prop} {w : World} {a b : AV} {x y u : Value} (ha : ∀ u, VR M F w a u → u = x) (hb : ∀ u, VR M F w b u → u = y) (h : VR M F w (.agg [a, b]) u) : u = .agg #[x, y] := by
  cases h with
  | @agg _ vs hl h =>
    obtain ⟨l⟩ := vs
    match l, hl with
    | [p, q], _ => rw [ha p (h 0 _ p rfl rfl), hb q (h 1 _ q rfl rfl)]
theorem agg_l3 {M : Mp} {F : Nat → Prop} {w : World} {a b c : AV} {x y z u : Value} (ha : ∀ u, VR M F w a u → u = x) (hb : ∀ u, VR M F w b u → u = y) (hc : ∀ u, VR M F w c u → u = z) (h : VR M F w (.agg [a, b, c]) u) : u = .agg #[x, y, z] := by
  cases h with
  | @agg _ vs hl h =>
    obtain ⟨l⟩ := vs
    match l, hl with
    | [p, q, r], _ => rw [ha p (h 0 _ p rfl rfl), hb q (h 1 _ q rfl rfl), hc r (h 2 _ r rfl rfl)]
theorem vr_int {M : Mp} {F : Nat → Prop} {w : World} {k : IntKind} {n : Int} : ∀ u, VR M F w (.int k n) u → u = .int k n := fun u h => by cases h; rfl
theorem vr_bool {M : Mp} {F : Nat → Prop} {w : World} {b : Bool} : ∀ u, VR M F w (.bool b) u → u = .bool b := fun u h => by cases h; rfl
theorem vr_str {M : Mp} {F : Nat → Prop} {w : World} {b : ByteArray} : ∀ u, VR M F w (.str b) u → u = .string b := fun u h => by cases h; rfl
theorem eq_li (w : World) (a d : Bool) (b c e f : Int) : (Op.equal 26 (.agg #[.bool a, .int .i64 b, .int .i64 c]) (.agg #[.bool d, .int .i64 e, .int .i64 f])).run Tryz.prog w = .ok (a == d && b == e && c == f) w := by
  have hs : Tryz.prog.stoodInHeld 26 = false := by kernel_rfl
  have hf : Tryz.prog.underlying 26 = some (.struct (Tryz.prog.fieldsOf 26)) := by unfold Program.fieldsOf; rw [Tryz.underlying26]
  have p1 : Tryz.prog.plainKey 4 = true := by kernel_rfl
  have p2 : Tryz.prog.plainKey 3 = true := by kernel_rfl
  have h : (Op.equalIn (9999 + 1) 26 (.agg #[.bool a, .int .i64 b, .int .i64 c]) (.agg #[.bool d, .int .i64 e, .int .i64 f])).run Tryz.prog w = .ok (a == d && b == e && c == f) w := by
    rw [run_equalIn_struct w 9999 _ _ _ hf hs]
    unfold Program.fieldsOf
    rw [Tryz.underlying26]
    simp only [Op.eqFields]
    cases h1 : (a == d) <;> cases h2 : (b == e) <;> cases h3 : (c == f) <;> simp [run_part_plain w p1 (xs := #[.bool a, .int .i64 b, .int .i64 c]) (off := 0) rfl, run_part_plain w p1 (xs := #[.bool d, .int .i64 e, .int .i64 f]) (off := 0) rfl, run_part_plain w p2 (xs := #[.bool a, .int .i64 b, .int .i64 c]) (off := 1) rfl, run_part_plain w p2 (xs := #[.bool d, .int .i64 e, .int .i64 f]) (off := 1) rfl, run_part_plain w p2 (xs := #[.bool a, .int .i64 b, .int .i64 c]) (off := 2) rfl, run_part_plain w p2 (xs := #[.bool d, .int .i64 e, .int .i64 f]) (off := 2) rfl, run_equalIn_int w _ _ _ _ _ _ Tryz.underlying3, run_equalIn_bool' w _ _ _ _ Tryz.underlying4, h1, h2, h3]
  exact h
theorem eq_im (w : World) (a b d e : ByteArray) (c f : Int) : (Op.equal 48 (.agg #[.string a, .string b, .int .i64 c]) (.agg #[.string d, .string e, .int .i64 f])).run Tryz.prog w = .ok (a.toList == d.toList && b.toList == e.toList && c == f) w := by
  have hs : Tryz.prog.stoodInHeld 48 = false := by kernel_rfl
  have hf : Tryz.prog.underlying 48 = some (.struct (Tryz.prog.fieldsOf 48)) := by unfold Program.fieldsOf; rw [Tryz.underlying48]
  have p1 : Tryz.prog.plainKey 9 = true := by kernel_rfl
  have p2 : Tryz.prog.plainKey 3 = true := by kernel_rfl
  have h : (Op.equalIn (9999 + 1) 48 (.agg #[.string a, .string b, .int .i64 c]) (.agg #[.string d, .string e, .int .i64 f])).run Tryz.prog w = .ok (a.toList == d.toList && b.toList == e.toList && c == f) w := by
    rw [run_equalIn_struct w 9999 _ _ _ hf hs]
    unfold Program.fieldsOf
    rw [Tryz.underlying48]
    simp only [Op.eqFields]
    cases h1 : (a.toList == d.toList) <;> cases h2 : (b.toList == e.toList) <;> cases h3 : (c == f) <;> simp [run_part_plain w p1 (xs := #[.string a, .string b, .int .i64 c]) (off := 0) rfl, run_part_plain w p1 (xs := #[.string d, .string e, .int .i64 f]) (off := 0) rfl, run_part_plain w p1 (xs := #[.string a, .string b, .int .i64 c]) (off := 1) rfl, run_part_plain w p1 (xs := #[.string d, .string e, .int .i64 f]) (off := 1) rfl, run_part_plain w p2 (xs := #[.string a, .string b, .int .i64 c]) (off := 2) rfl, run_part_plain w p2 (xs := #[.string d, .string e, .int .i64 f]) (off := 2) rfl, run_equalIn_int w _ _ _ _ _ _ Tryz.underlying3, run_equalIn_string w _ _ _ _ Tryz.underlying9, h1, h2, h3]
  exact h
theorem eq_ex (w : World) (a d : ByteArray) (c f : Int) : (Op.equal 50 (.agg #[.string a, .int .i64 c]) (.agg #[.string d, .int .i64 f])).run Tryz.prog w = .ok (a.toList == d.toList && c == f) w := by
  have hs : Tryz.prog.stoodInHeld 50 = false := by kernel_rfl
  have hf : Tryz.prog.underlying 50 = some (.struct (Tryz.prog.fieldsOf 50)) := by unfold Program.fieldsOf; rw [Tryz.underlying50]
  have p1 : Tryz.prog.plainKey 9 = true := by kernel_rfl
  have p2 : Tryz.prog.plainKey 3 = true := by kernel_rfl
  have h : (Op.equalIn (9999 + 1) 50 (.agg #[.string a, .int .i64 c]) (.agg #[.string d, .int .i64 f])).run Tryz.prog w = .ok (a.toList == d.toList && c == f) w := by
    rw [run_equalIn_struct w 9999 _ _ _ hf hs]
    unfold Program.fieldsOf
    rw [Tryz.underlying50]
    simp only [Op.eqFields]
    cases h1 : (a.toList == d.toList) <;> cases h3 : (c == f) <;> simp [run_part_plain w p1 (xs := #[.string a, .int .i64 c]) (off := 0) rfl, run_part_plain w p1 (xs := #[.string d, .int .i64 f]) (off := 0) rfl, run_part_plain w p2 (xs := #[.string a, .int .i64 c]) (off := 1) rfl, run_part_plain w p2 (xs := #[.string d, .int .i64 f]) (off := 1) rfl, run_equalIn_int w _ _ _ _ _ _ Tryz.underlying3, run_equalIn_string w _ _ _ _ Tryz.underlying9, h1, h3]
  exact h
theorem eqd_val (n : Nat) (w : World) (a b c d : Int) : (Op.equalIn (n + 2) 64 (.agg #[.int .i64 a, .int .i64 b]) (.agg #[.int .i64 c, .int .i64 d])).run Tryz.prog w = .ok (a == c && b == d) w := by
  have hs : Tryz.prog.stoodInHeld 64 = false := by kernel_rfl
  have hf : Tryz.prog.underlying 64 = some (.struct (Tryz.prog.fieldsOf 64)) := by unfold Program.fieldsOf; rw [Tryz.underlying64]
  have p1 : Tryz.prog.plainKey 3 = true := by kernel_rfl
  have p2 : Tryz.prog.plainKey 2 = true := by kernel_rfl
  rw [run_equalIn_struct w (n + 1) _ _ _ hf hs]
  unfold Program.fieldsOf
  rw [Tryz.underlying64]
  simp only [Op.eqFields]
  cases h1 : (a == c) <;> cases h2 : (b == d) <;> simp [run_part_plain w p1 (xs := #[.int .i64 a, .int .i64 b]) (off := 0) rfl, run_part_plain w p1 (xs := #[.int .i64 c, .int .i64 d]) (off := 0) rfl, run_part_plain w p2 (xs := #[.int .i64 a, .int .i64 b]) (off := 1) rfl, run_part_plain w p2 (xs := #[.int .i64 c, .int .i64 d]) (off := 1) rfl, run_equalIn_int w _ _ _ _ _ _ Tryz.underlying3, run_equalIn_int w _ _ _ _ _ _ Tryz.underlying2, h1, h2]
theorem eq_gl (w : World) (a d : Bool) (b c e f : Int) : (Op.equal 66 (.agg #[.bool a, .int .i64 b, .int .i64 c]) (.agg #[.bool d, .int .i64 e, .int .i64 f])).run Tryz.prog w = .ok (a == d && (b == e && c == f)) w := by
  have hs : Tryz.prog.stoodInHeld 66 = false := by kernel_rfl
  have hf : Tryz.prog.underlying 66 = some (.struct (Tryz.prog.fieldsOf 66)) := by unfold Program.fieldsOf; rw [Tryz.underlying66]
  have p1 : Tryz.prog.plainKey 4 = true := by kernel_rfl
  have q1 : ∀ a b c, (part 64 #[.bool a, .int .i64 b, .int .i64 c] 1).run Tryz.prog w = .ok (.agg #[.int .i64 b, .int .i64 c]) w := fun a b c => by
    obtain ⟨i, hi, hz, hs, _⟩ := Tz.parts Tryz.prog 64
    simp [part, isAgg, run_underlying Tryz.underlying64, sizeOf, typeInfo, hi, hs]
  have h : (Op.equalIn (9999 + 1) 66 (.agg #[.bool a, .int .i64 b, .int .i64 c]) (.agg #[.bool d, .int .i64 e, .int .i64 f])).run Tryz.prog w = .ok (a == d && (b == e && c == f)) w := by
    rw [run_equalIn_struct w 9999 _ _ _ hf hs]
    unfold Program.fieldsOf
    rw [Tryz.underlying66]
    simp only [Op.eqFields]
    cases h1 : (a == d) <;> cases h2 : (b == e && c == f) <;> simp [run_part_plain w p1 (xs := #[.bool a, .int .i64 b, .int .i64 c]) (off := 0) rfl, run_part_plain w p1 (xs := #[.bool d, .int .i64 e, .int .i64 f]) (off := 0) rfl, q1, run_equalIn_bool' w _ _ _ _ Tryz.underlying4, eqd_val 9997, h1, h2]
  exact h
/-
  Lists of parts against one another.
-/
instance : DecidableEq FT := fun a b => decidable_of_iff (a.pr = b.pr ∧ a.rs = b.rs) ⟨fun h => by cases a; cases b; simp_all, fun h => by subst h; exact ⟨rfl, rfl⟩⟩
instance : DecidableEq Im := fun a b => decidable_of_iff (a.mod = b.mod ∧ a.nm = b.nm ∧ a.ty = b.ty) ⟨fun h => by cases a; cases b; simp_all, fun h => by subst h; exact ⟨rfl, rfl, rfl⟩⟩
instance : DecidableEq Gl := fun a b => decidable_of_iff (a.mu = b.mu ∧ a.kd = b.kd ∧ a.n = b.n) ⟨fun h => by cases a; cases b; simp_all, fun h => by subst h; exact ⟨rfl, rfl, rfl⟩⟩
instance : DecidableEq Ex := fun a b => decidable_of_iff (a.nm = b.nm ∧ a.fn = b.fn) ⟨fun h => by cases a; cases b; simp_all, fun h => by subst h; exact ⟨rfl, rfl⟩⟩
instance : DecidableEq El := fun a b => decidable_of_iff (a.off = b.off ∧ a.fs = b.fs) ⟨fun h => by cases a; cases b; simp_all, fun h => by subst h; exact ⟨rfl, rfl⟩⟩
instance : DecidableEq Co := fun a b => decidable_of_iff (a.ls = b.ls ∧ a.bd = b.bd) ⟨fun h => by cases a; cases b; simp_all, fun h => by subst h; exact ⟨rfl, rfl⟩⟩
instance : DecidableEq Da := fun a b => decidable_of_iff (a.off = b.off ∧ a.bs = b.bs) ⟨fun h => by cases a; cases b; simp_all, fun h => by subst h; exact ⟨rfl, rfl⟩⟩
instance : DecidableEq Li := fun a b => decidable_of_iff (a.has = b.has ∧ a.mn = b.mn ∧ a.mx = b.mx) ⟨fun h => by cases a; cases b; simp_all, fun h => by subst h; exact ⟨rfl, rfl, rfl⟩⟩
section
variable {s : ASt} {c : Bool} {x y : Operand} {ty t t' : TypeId}
theorem lop_agg_eql {xs ys : Array Value} {cx cy : List AV} {b : Bool} (hg : Tryz.prog.eqGuardType Tryz.prog.depth t = false) (hx : ∀ (M : Mp) (F : Nat → Prop) (w : World) (u : Value), VR M F w (.agg cx) u → u = .agg xs) (hy : ∀ (M : Mp) (F : Nat → Prop) (w : World) (u : Value), VR M F w (.agg cy) u → u = .agg ys)
    (he : ∀ w : World, (Op.equal t (.agg xs) (.agg ys)).run Tryz.prog w = .ok b w) (h : Ev s c x (.agg cx)) (h' : Ev s c y (.agg cy)) : Lop Tryz.prog (.binOp .eql t x y t') ty s c (.bool b) [] :=
  Lop.pure_ fun M F N n ac w hr hc => ⟨_, .bool _, fun w' o ho _ => by
    have e1 := hx _ _ _ _ (h.vr hr hc)
    have e2 := hy _ _ _ _ (h'.vr hr hc)
    refine run_binOp ho ?_ ?_
    · rw [e1, e2]
      exact run_eqGuard_agg w' .eql _ x y _ _ hg
    · rw [e1, e2]
      simp only [binOp, Sem.run_bind, he, Result.andThen_ok, Sem.run_pure]⟩
theorem lop_agg_neq {xs ys : Array Value} {cx cy : List AV} {b : Bool} (hg : Tryz.prog.eqGuardType Tryz.prog.depth t = false) (hx : ∀ (M : Mp) (F : Nat → Prop) (w : World) (u : Value), VR M F w (.agg cx) u → u = .agg xs) (hy : ∀ (M : Mp) (F : Nat → Prop) (w : World) (u : Value), VR M F w (.agg cy) u → u = .agg ys)
    (he : ∀ w : World, (Op.equal t (.agg xs) (.agg ys)).run Tryz.prog w = .ok b w) (h : Ev s c x (.agg cx)) (h' : Ev s c y (.agg cy)) : Lop Tryz.prog (.binOp .neq t x y t') ty s c (.bool (!b)) [] :=
  Lop.pure_ fun M F N n ac w hr hc => ⟨_, .bool _, fun w' o ho _ => by
    have e1 := hx _ _ _ _ (h.vr hr hc)
    have e2 := hy _ _ _ _ (h'.vr hr hc)
    refine run_binOp ho ?_ ?_
    · rw [e1, e2]
      exact run_eqGuard_agg w' .neq _ x y _ _ hg
    · rw [e1, e2]
      simp only [binOp, Sem.run_bind, he, Result.andThen_ok, Sem.run_pure]⟩
theorem lop_eql_li {a b : Li} (h : Ev s c x (.agg (encLi a))) (h' : Ev s c y (.agg (encLi b))) : Lop Tryz.prog (.binOp .eql 26 x y t') ty s c (.bool (decide (a = b))) [] := by
  have he : decide (a = b) = (a.has == b.has && a.mn == b.mn && a.mx == b.mx) := by rw [Bool.eq_iff_iff]; cases a; cases b; simp [and_assoc]
  rw [he]
  exact lop_agg_eql (by kernel_rfl) (fun _ _ _ _ => agg_l3 vr_bool vr_int vr_int) (fun _ _ _ _ => agg_l3 vr_bool vr_int vr_int) (fun w => eq_li w _ _ _ _ _ _) h h'
theorem lop_neq_im {a b : Im} (ha : StrOk a.mod ∧ StrOk a.nm) (hb : StrOk b.mod ∧ StrOk b.nm) (h : Ev s c x (.agg (encIm a))) (h' : Ev s c y (.agg (encIm b))) : Lop Tryz.prog (.binOp .neq 48 x y t') ty s c (.bool (!decide (a = b))) [] := by
  have he : decide (a = b) = ((strU a.mod).toList == (strU b.mod).toList && (strU a.nm).toList == (strU b.nm).toList && a.ty == b.ty) := by rw [strU_inj ha.1.2 hb.1.2, strU_inj ha.2.2 hb.2.2, Bool.eq_iff_iff]; cases a; cases b; simp [and_assoc]
  rw [he]
  exact lop_agg_neq (by kernel_rfl) (fun _ _ _ _ => agg_l3 vr_str vr_str vr_int) (fun _ _ _ _ => agg_l3 vr_str vr_str vr_int) (fun w => eq_im w _ _ _ _ _ _) h h'
theorem lop_neq_ex {a b : Ex} (ha : StrOk a.nm) (hb : StrOk b.nm) (h : Ev s c x (.agg (encEx a))) (h' : Ev s c y (.agg (encEx b))) : Lop Tryz.prog (.binOp .neq 50 x y t') ty s c (.bool (!decide (a = b))) [] := by
  have he : decide (a = b) = ((strU a.nm).toList == (strU b.nm).toList && a.fn == b.fn) := by rw [strU_inj ha.2 hb.2, Bool.eq_iff_iff]; cases a; cases b; simp
  rw [he]
  exact lop_agg_neq (by kernel_rfl) (fun _ _ _ _ => agg_l2 vr_str vr_int) (fun _ _ _ _ => agg_l2 vr_str vr_int) (fun w => eq_ex w _ _ _ _) h h'
theorem lop_neq_gl {a b : Gl} (h : Ev s c x (.agg (encGl a))) (h' : Ev s c y (.agg (encGl b))) : Lop Tryz.prog (.binOp .neq 66 x y t') ty s c (.bool (!decide (a = b))) [] := by
  have he : decide (a = b) = (a.mu == b.mu && (a.kd == b.kd && a.n == b.n)) := by rw [Bool.eq_iff_iff]; cases a; cases b; simp
  rw [he]
  exact lop_agg_neq (by kernel_rfl) (fun _ _ _ _ => agg_l3 vr_bool vr_int vr_int) (fun _ _ _ _ => agg_l3 vr_bool vr_int vr_int) (fun w => eq_gl w _ _ _ _ _ _) h h'
end
theorem eqs_im (xs ys : List Im) (hox : ∀ x ∈ xs, (fun x : Im => StrOk x.mod ∧ StrOk x.nm) x) (hoy : ∀ y ∈ ys, (fun x : Im => StrOk x.mod ∧ StrOk x.nm) y) : SCall Tryz.prog 54 [.ro 3 (xs.map encIm) .any, .ro 3 (ys.map encIm) .any] [] (fun r σ => r = .bool (decide (xs = ys)) ∧ σ = []) := by
  refine scall_of (n := 26) (ks := [0, 1, 4, 5, 10, 12, 13, 14, 24]) Tryz.func54 rfl rfl (Nat.le_of_ble_eq_true rfl) ?_
  refine sw_max (i := 0) rfl fun hm => ?_
  rw [List.length_map] at hm
  unfold maxLen at hm
  refine sq111 ?_
  refine sw_cond rfl (fun g1 => ?_) (fun g1 => ?_)
  · have hE : decide (xs = ys) = false := decide_eq_false (by rintro rfl; simp at g1)
    refine sq7 ?_
    apply aend; exact resT
    · exact ⟨by rw [hE]; rfl, rfl⟩
    · exact stleT
  have hl : xs.length = ys.length := by simp at g1; omega
  refine sq4 ?_
  refine sq43 ?_
  refine lp (β := Nat) (fun k => ⟨[(0, .ro 3 (xs.map encIm) .any), (1, .ro 3 (ys.map encIm) .any), (12, .int .i64 xs.length), (13, .int .i64 k)], []⟩) (fun k => k ≤ xs.length ∧ xs.take k = ys.take k) (fun k => xs.length - k) 0 sgoT ⟨Nat.zero_le _, rfl⟩ ?_
  rintro k ⟨hk, ht⟩
  refine sq42 ?_
  refine sw_cond rfl (fun g4 => ?_) (fun g4 => ?_)
  · have hlt : k < xs.length := by simp at g4; omega
    obtain ⟨x, hx⟩ : ∃ x, xs[k]? = some x := ⟨_, List.getElem?_eq_getElem hlt⟩
    obtain ⟨y, hy⟩ : ∃ y, ys[k]? = some y := ⟨_, List.getElem?_eq_getElem (by omega)⟩
    have hox1 := hox x (List.mem_of_getElem? hx)
    have hoy1 := hoy y (List.mem_of_getElem? hy)
    refine sq29 ?_
    refine rgD [(0, true), (1, true), (2, true), (3, true), (4, true), (5, true), (6, true), (7, true), (8, true)] ?_
    refine sq40 ?_
    refine z126 ?_
    refine sq40 ?_
    refine z126 ?_
    refine dlo rfl (lop_neq_im hox1 hoy1 (E rfl) (E rfl)) rfl ?_
    refine sq91 ?_
    refine sw_cond rfl (fun g6 => ?_) (fun g6 => ?_)
    · have hne : x ≠ y := by intro e; subst e; simp at g6
      have hE : decide (xs = ys) = false := decide_eq_false (by rintro rfl; rw [hx] at hy; exact hne (Option.some.inj hy))
      refine sq7 ?_
      apply aend; exact resT
      · exact ⟨by rw [hE]; rfl, rfl⟩
      · exact stleT
    refine sq54 ?_
    have hxy : x = y := by first | simpa using g6 | (simp at g6; omega)
    refine ⟨k + 1, ⟨hlt, by rw [List.take_add_one, List.take_add_one, ht, hx, hy, hxy]⟩, by show xs.length - (k + 1) < xs.length - k; omega, ?_⟩
    exact sgoT
  have hE : decide (xs = ys) = true := decide_eq_true (by simp at g4; rwa [List.take_of_length_le (by omega), List.take_of_length_le (by omega)] at ht)
  refine sq7 ?_
  apply aend; exact resT
  · exact ⟨by rw [hE]; rfl, rfl⟩
  · exact stleT
theorem eqs_ex (xs ys : List Ex) (hox : ∀ x ∈ xs, (fun x : Ex => StrOk x.nm) x) (hoy : ∀ y ∈ ys, (fun x : Ex => StrOk x.nm) y) : SCall Tryz.prog 56 [.ro 2 (xs.map encEx) .any, .ro 2 (ys.map encEx) .any] [] (fun r σ => r = .bool (decide (xs = ys)) ∧ σ = []) := by
  refine scall_of (n := 26) (ks := [0, 1, 4, 5, 10, 12, 13, 14, 24]) Tryz.func56 rfl rfl (Nat.le_of_ble_eq_true rfl) ?_
  refine sw_max (i := 0) rfl fun hm => ?_
  rw [List.length_map] at hm
  unfold maxLen at hm
  refine sq111 ?_
  refine sw_cond rfl (fun g1 => ?_) (fun g1 => ?_)
  · have hE : decide (xs = ys) = false := decide_eq_false (by rintro rfl; simp at g1)
    refine sq7 ?_
    apply aend; exact resT
    · exact ⟨by rw [hE]; rfl, rfl⟩
    · exact stleT
  have hl : xs.length = ys.length := by simp at g1; omega
  refine sq4 ?_
  refine sq43 ?_
  refine lp (β := Nat) (fun k => ⟨[(0, .ro 2 (xs.map encEx) .any), (1, .ro 2 (ys.map encEx) .any), (12, .int .i64 xs.length), (13, .int .i64 k)], []⟩) (fun k => k ≤ xs.length ∧ xs.take k = ys.take k) (fun k => xs.length - k) 0 sgoT ⟨Nat.zero_le _, rfl⟩ ?_
  rintro k ⟨hk, ht⟩
  refine sq42 ?_
  refine sw_cond rfl (fun g4 => ?_) (fun g4 => ?_)
  · have hlt : k < xs.length := by simp at g4; omega
    obtain ⟨x, hx⟩ : ∃ x, xs[k]? = some x := ⟨_, List.getElem?_eq_getElem hlt⟩
    obtain ⟨y, hy⟩ : ∃ y, ys[k]? = some y := ⟨_, List.getElem?_eq_getElem (by omega)⟩
    have hox1 := hox x (List.mem_of_getElem? hx)
    have hoy1 := hoy y (List.mem_of_getElem? hy)
    refine sq29 ?_
    refine rgD [(0, true), (1, true), (2, true), (3, true), (4, true), (5, true), (6, true), (7, true), (8, true)] ?_
    refine sq40 ?_
    refine z126 ?_
    refine sq40 ?_
    refine z126 ?_
    refine dlo rfl (lop_neq_ex hox1 hoy1 (E rfl) (E rfl)) rfl ?_
    refine sq91 ?_
    refine sw_cond rfl (fun g6 => ?_) (fun g6 => ?_)
    · have hne : x ≠ y := by intro e; subst e; simp at g6
      have hE : decide (xs = ys) = false := decide_eq_false (by rintro rfl; rw [hx] at hy; exact hne (Option.some.inj hy))
      refine sq7 ?_
      apply aend; exact resT
      · exact ⟨by rw [hE]; rfl, rfl⟩
      · exact stleT
    refine sq54 ?_
    have hxy : x = y := by first | simpa using g6 | (simp at g6; omega)
    refine ⟨k + 1, ⟨hlt, by rw [List.take_add_one, List.take_add_one, ht, hx, hy, hxy]⟩, by show xs.length - (k + 1) < xs.length - k; omega, ?_⟩
    exact sgoT
  have hE : decide (xs = ys) = true := decide_eq_true (by simp at g4; rwa [List.take_of_length_le (by omega), List.take_of_length_le (by omega)] at ht)
  refine sq7 ?_
  apply aend; exact resT
  · exact ⟨by rw [hE]; rfl, rfl⟩
  · exact stleT
theorem eqs_gl (xs ys : List Gl) (hox : ∀ x ∈ xs, (fun _ : Gl => True) x) (hoy : ∀ y ∈ ys, (fun _ : Gl => True) y) : SCall Tryz.prog 55 [.ro 3 (xs.map encGl) .any, .ro 3 (ys.map encGl) .any] [] (fun r σ => r = .bool (decide (xs = ys)) ∧ σ = []) := by
  refine scall_of (n := 26) (ks := [0, 1, 4, 5, 10, 12, 13, 14, 24]) Tryz.func55 rfl rfl (Nat.le_of_ble_eq_true rfl) ?_
  refine sw_max (i := 0) rfl fun hm => ?_
  rw [List.length_map] at hm
  unfold maxLen at hm
  refine sq111 ?_
  refine sw_cond rfl (fun g1 => ?_) (fun g1 => ?_)
  · have hE : decide (xs = ys) = false := decide_eq_false (by rintro rfl; simp at g1)
    refine sq7 ?_
    apply aend; exact resT
    · exact ⟨by rw [hE]; rfl, rfl⟩
    · exact stleT
  have hl : xs.length = ys.length := by simp at g1; omega
  refine sq4 ?_
  refine sq43 ?_
  refine lp (β := Nat) (fun k => ⟨[(0, .ro 3 (xs.map encGl) .any), (1, .ro 3 (ys.map encGl) .any), (12, .int .i64 xs.length), (13, .int .i64 k)], []⟩) (fun k => k ≤ xs.length ∧ xs.take k = ys.take k) (fun k => xs.length - k) 0 sgoT ⟨Nat.zero_le _, rfl⟩ ?_
  rintro k ⟨hk, ht⟩
  refine sq42 ?_
  refine sw_cond rfl (fun g4 => ?_) (fun g4 => ?_)
  · have hlt : k < xs.length := by simp at g4; omega
    obtain ⟨x, hx⟩ : ∃ x, xs[k]? = some x := ⟨_, List.getElem?_eq_getElem hlt⟩
    obtain ⟨y, hy⟩ : ∃ y, ys[k]? = some y := ⟨_, List.getElem?_eq_getElem (by omega)⟩
    have hox1 := hox x (List.mem_of_getElem? hx)
    have hoy1 := hoy y (List.mem_of_getElem? hy)
    refine sq29 ?_
    refine rgD [(0, true), (1, true), (2, true), (3, true), (4, true), (5, true), (6, true), (7, true), (8, true)] ?_
    refine sq40 ?_
    refine z126 ?_
    refine sq40 ?_
    refine z126 ?_
    refine dlo rfl (lop_neq_gl (E rfl) (E rfl)) rfl ?_
    refine sq91 ?_
    refine sw_cond rfl (fun g6 => ?_) (fun g6 => ?_)
    · have hne : x ≠ y := by intro e; subst e; simp at g6
      have hE : decide (xs = ys) = false := decide_eq_false (by rintro rfl; rw [hx] at hy; exact hne (Option.some.inj hy))
      refine sq7 ?_
      apply aend; exact resT
      · exact ⟨by rw [hE]; rfl, rfl⟩
      · exact stleT
    refine sq54 ?_
    have hxy : x = y := by first | simpa using g6 | (simp at g6; omega)
    refine ⟨k + 1, ⟨hlt, by rw [List.take_add_one, List.take_add_one, ht, hx, hy, hxy]⟩, by show xs.length - (k + 1) < xs.length - k; omega, ?_⟩
    exact sgoT
  have hE : decide (xs = ys) = true := decide_eq_true (by simp at g4; rwa [List.take_of_length_le (by omega), List.take_of_length_le (by omega)] at ht)
  refine sq7 ?_
  apply aend; exact resT
  · exact ⟨by rw [hE]; rfl, rfl⟩
  · exact stleT
theorem eqs_u8 (xs ys : List Nat) (hox : ∀ x ∈ xs, (fun _ : Nat => True) x) (hoy : ∀ y ∈ ys, (fun _ : Nat => True) y) : SCall Tryz.prog 53 [.ro 1 (xs.map encU) .any, .ro 1 (ys.map encU) .any] [] (fun r σ => r = .bool (decide (xs = ys)) ∧ σ = []) := by
  refine scall_of (n := 26) (ks := [0, 1, 4, 5, 10, 12, 13, 14, 24]) Tryz.func53 rfl rfl (Nat.le_of_ble_eq_true rfl) ?_
  refine sw_max (i := 0) rfl fun hm => ?_
  rw [List.length_map] at hm
  unfold maxLen at hm
  refine sq111 ?_
  refine sw_cond rfl (fun g1 => ?_) (fun g1 => ?_)
  · have hE : decide (xs = ys) = false := decide_eq_false (by rintro rfl; simp at g1)
    refine sq7 ?_
    apply aend; exact resT
    · exact ⟨by rw [hE]; rfl, rfl⟩
    · exact stleT
  have hl : xs.length = ys.length := by simp at g1; omega
  refine sq4 ?_
  refine sq43 ?_
  refine lp (β := Nat) (fun k => ⟨[(0, .ro 1 (xs.map encU) .any), (1, .ro 1 (ys.map encU) .any), (12, .int .i64 xs.length), (13, .int .i64 k)], []⟩) (fun k => k ≤ xs.length ∧ xs.take k = ys.take k) (fun k => xs.length - k) 0 sgoT ⟨Nat.zero_le _, rfl⟩ ?_
  rintro k ⟨hk, ht⟩
  refine sq42 ?_
  refine sw_cond rfl (fun g4 => ?_) (fun g4 => ?_)
  · have hlt : k < xs.length := by simp at g4; omega
    obtain ⟨x, hx⟩ : ∃ x, xs[k]? = some x := ⟨_, List.getElem?_eq_getElem hlt⟩
    obtain ⟨y, hy⟩ : ∃ y, ys[k]? = some y := ⟨_, List.getElem?_eq_getElem (by omega)⟩
    have hox1 := hox x (List.mem_of_getElem? hx)
    have hoy1 := hoy y (List.mem_of_getElem? hy)
    refine sq29 ?_
    refine rgD [(0, true), (1, true), (2, true), (3, true), (4, true), (5, true), (6, true), (7, true), (8, true)] ?_
    refine sq40 ?_
    refine z57 ?_
    refine sq40 ?_
    refine z57 ?_
    refine z58 ?_
    refine sq91 ?_
    refine sw_cond rfl (fun g6 => ?_) (fun g6 => ?_)
    · have hz : True := True.intro
      have hne : x ≠ y := by intro e; subst e; simp at g6
      have hE : decide (xs = ys) = false := decide_eq_false (by rintro rfl; rw [hx] at hy; exact hne (Option.some.inj hy))
      refine sq7 ?_
      apply aend; exact resT
      · exact ⟨by rw [hE]; rfl, rfl⟩
      · exact stleT
    refine sq54 ?_
    have hxy : x = y := by first | simpa using g6 | (simp at g6; omega)
    refine ⟨k + 1, ⟨hlt, by rw [List.take_add_one, List.take_add_one, ht, hx, hy, hxy]⟩, by show xs.length - (k + 1) < xs.length - k; omega, ?_⟩
    exact sgoT
  have hE : decide (xs = ys) = true := decide_eq_true (by simp at g4; rwa [List.take_of_length_le (by omega), List.take_of_length_le (by omega)] at ht)
  refine sq7 ?_
  apply aend; exact resT
  · exact ⟨by rw [hE]; rfl, rfl⟩
  · exact stleT
theorem eqf_ft {f : FuncId} {ok : FT → Prop} (hf : (∀ args w, (callFunc f args).run Tryz.prog w = .ok (.enter f args) w) ∧ ∀ x y, ok x → ok y → SCall Tryz.prog f ([] ++ [.agg (encFT x), .agg (encFT y)] ++ []) [] (fun r σ => r = .bool (decide (x = y)) ∧ σ = [])) (xs ys : List FT) (hox : ∀ x ∈ xs, ok x) (hoy : ∀ y ∈ ys, ok y) : SCall Tryz.prog 42 [.ro 2 (xs.map encFT) .any, .ro 2 (ys.map encFT) .any, .fn (.func f) [] []] [] (fun r σ => r = .bool (decide (xs = ys)) ∧ σ = []) := by
  refine scall_of (n := 32) (ks := [0, 1, 2, 6, 7, 8, 9, 14, 15, 16, 17, 18, 30]) Tryz.func42 rfl rfl (Nat.le_of_ble_eq_true rfl) ?_
  refine sw_max (i := 0) rfl fun hm => ?_
  rw [List.length_map] at hm
  unfold maxLen at hm
  refine sq111 ?_
  refine sw_cond rfl (fun g1 => ?_) (fun g1 => ?_)
  · have hE : decide (xs = ys) = false := decide_eq_false (by rintro rfl; simp at g1)
    refine sq7 ?_
    apply aend; exact resT
    · exact ⟨by rw [hE]; rfl, rfl⟩
    · exact stleT
  have hl : xs.length = ys.length := by simp at g1; omega
  refine sq4 ?_
  refine sq43 ?_
  refine lp (β := Nat) (fun k => ⟨[(1, .ro 2 (ys.map encFT) .any), (2, .fn (.func f) [] []), (15, .ro 2 (xs.map encFT) .any), (16, .int .i64 xs.length), (17, .int .i64 k)], []⟩) (fun k => k ≤ xs.length ∧ xs.take k = ys.take k) (fun k => xs.length - k) 0 sgoT ⟨Nat.zero_le _, rfl⟩ ?_
  rintro k ⟨hk, ht⟩
  refine sq42 ?_
  refine sw_cond rfl (fun g4 => ?_) (fun g4 => ?_)
  · have hlt : k < xs.length := by simp at g4; omega
    obtain ⟨x, hx⟩ : ∃ x, xs[k]? = some x := ⟨_, List.getElem?_eq_getElem hlt⟩
    obtain ⟨y, hy⟩ : ∃ y, ys[k]? = some y := ⟨_, List.getElem?_eq_getElem (by omega)⟩
    refine sq4 ?_
    refine sq69 ?_
    apply al; rfl; (exact zcT); refine freshT fun r8 h8 => ?_; repeat rcases h8 with ⟨_, h8⟩
    refine lo (lop_assign (E rfl)) rfl ?_
    apply stp; rfl; rfl; rfl; rfl; (exact sputT)
    refine sq84 ?_
    refine sq69 ?_
    apply al; rfl; (exact zcT); refine freshT fun r9 h9 => ?_; repeat rcases h9 with ⟨_, h9⟩
    apply stp; rfl; rfl; rfl; rfl; (exact sputT)
    refine sq38 ?_
    refine z99 ?_
    refine z99 ?_
    refine cf_ [] rfl hf.1 (hf.2 x y (hox x (List.mem_of_getElem? hx)) (hoy y (List.mem_of_getElem? hy))) rfl argsleT stleT ?_
    rintro _ σ' ⟨rfl, rfl⟩ h29
    apply rs_sto; exact nflT
    refine sq59 ?_
    refine sw_cond rfl (fun g7 => ?_) (fun g7 => ?_)
    · have hne : x ≠ y := by simpa using g7
      have hE : decide (xs = ys) = false := decide_eq_false (by rintro rfl; rw [hx] at hy; exact hne (Option.some.inj hy))
      refine sq7 ?_
      apply aend; exact resT
      · exact ⟨by rw [hE]; rfl, rfl⟩
      · exact stleT
    refine sq54 ?_
    have hxy : x = y := by simpa using g7
    refine ⟨k + 1, ⟨hlt, by rw [List.take_add_one, List.take_add_one, ht, hx, hy, hxy]⟩, by show xs.length - (k + 1) < xs.length - k; omega, ?_⟩
    exact sgoT
  have hE : decide (xs = ys) = true := decide_eq_true (by simp at g4; rwa [List.take_of_length_le (by omega), List.take_of_length_le (by omega)] at ht)
  refine sq7 ?_
  apply aend; exact resT
  · exact ⟨by rw [hE]; rfl, rfl⟩
  · exact stleT
theorem eqf_el {f : FuncId} {ok : El → Prop} (hf : (∀ args w, (callFunc f args).run Tryz.prog w = .ok (.enter f args) w) ∧ ∀ x y, ok x → ok y → SCall Tryz.prog f ([] ++ [.agg (encEl x), .agg (encEl y)] ++ []) [] (fun r σ => r = .bool (decide (x = y)) ∧ σ = [])) (xs ys : List El) (hox : ∀ x ∈ xs, ok x) (hoy : ∀ y ∈ ys, ok y) : SCall Tryz.prog 45 [.ro 2 (xs.map encEl) .any, .ro 2 (ys.map encEl) .any, .fn (.func f) [] []] [] (fun r σ => r = .bool (decide (xs = ys)) ∧ σ = []) := by
  refine scall_of (n := 32) (ks := [0, 1, 2, 6, 7, 8, 9, 14, 15, 16, 17, 18, 30]) Tryz.func45 rfl rfl (Nat.le_of_ble_eq_true rfl) ?_
  refine sw_max (i := 0) rfl fun hm => ?_
  rw [List.length_map] at hm
  unfold maxLen at hm
  refine sq111 ?_
  refine sw_cond rfl (fun g1 => ?_) (fun g1 => ?_)
  · have hE : decide (xs = ys) = false := decide_eq_false (by rintro rfl; simp at g1)
    refine sq7 ?_
    apply aend; exact resT
    · exact ⟨by rw [hE]; rfl, rfl⟩
    · exact stleT
  have hl : xs.length = ys.length := by simp at g1; omega
  refine sq4 ?_
  refine sq43 ?_
  refine lp (β := Nat) (fun k => ⟨[(1, .ro 2 (ys.map encEl) .any), (2, .fn (.func f) [] []), (15, .ro 2 (xs.map encEl) .any), (16, .int .i64 xs.length), (17, .int .i64 k)], []⟩) (fun k => k ≤ xs.length ∧ xs.take k = ys.take k) (fun k => xs.length - k) 0 sgoT ⟨Nat.zero_le _, rfl⟩ ?_
  rintro k ⟨hk, ht⟩
  refine sq42 ?_
  refine sw_cond rfl (fun g4 => ?_) (fun g4 => ?_)
  · have hlt : k < xs.length := by simp at g4; omega
    obtain ⟨x, hx⟩ : ∃ x, xs[k]? = some x := ⟨_, List.getElem?_eq_getElem hlt⟩
    obtain ⟨y, hy⟩ : ∃ y, ys[k]? = some y := ⟨_, List.getElem?_eq_getElem (by omega)⟩
    refine sq4 ?_
    refine sq69 ?_
    apply al; rfl; (exact zcT); refine freshT fun r8 h8 => ?_; repeat rcases h8 with ⟨_, h8⟩
    refine lo (lop_assign (E rfl)) rfl ?_
    apply stp; rfl; rfl; rfl; rfl; (exact sputT)
    refine sq84 ?_
    refine sq69 ?_
    apply al; rfl; (exact zcT); refine freshT fun r9 h9 => ?_; repeat rcases h9 with ⟨_, h9⟩
    apply stp; rfl; rfl; rfl; rfl; (exact sputT)
    refine sq38 ?_
    refine z99 ?_
    refine z99 ?_
    refine cf_ [] rfl hf.1 (hf.2 x y (hox x (List.mem_of_getElem? hx)) (hoy y (List.mem_of_getElem? hy))) rfl argsleT stleT ?_
    rintro _ σ' ⟨rfl, rfl⟩ h29
    apply rs_sto; exact nflT
    refine sq59 ?_
    refine sw_cond rfl (fun g7 => ?_) (fun g7 => ?_)
    · have hne : x ≠ y := by simpa using g7
      have hE : decide (xs = ys) = false := decide_eq_false (by rintro rfl; rw [hx] at hy; exact hne (Option.some.inj hy))
      refine sq7 ?_
      apply aend; exact resT
      · exact ⟨by rw [hE]; rfl, rfl⟩
      · exact stleT
    refine sq54 ?_
    have hxy : x = y := by simpa using g7
    refine ⟨k + 1, ⟨hlt, by rw [List.take_add_one, List.take_add_one, ht, hx, hy, hxy]⟩, by show xs.length - (k + 1) < xs.length - k; omega, ?_⟩
    exact sgoT
  have hE : decide (xs = ys) = true := decide_eq_true (by simp at g4; rwa [List.take_of_length_le (by omega), List.take_of_length_le (by omega)] at ht)
  refine sq7 ?_
  apply aend; exact resT
  · exact ⟨by rw [hE]; rfl, rfl⟩
  · exact stleT
theorem eqf_co {f : FuncId} {ok : Co → Prop} (hf : (∀ args w, (callFunc f args).run Tryz.prog w = .ok (.enter f args) w) ∧ ∀ x y, ok x → ok y → SCall Tryz.prog f ([] ++ [.agg (encCo x), .agg (encCo y)] ++ []) [] (fun r σ => r = .bool (decide (x = y)) ∧ σ = [])) (xs ys : List Co) (hox : ∀ x ∈ xs, ok x) (hoy : ∀ y ∈ ys, ok y) : SCall Tryz.prog 47 [.ro 2 (xs.map encCo) .any, .ro 2 (ys.map encCo) .any, .fn (.func f) [] []] [] (fun r σ => r = .bool (decide (xs = ys)) ∧ σ = []) := by
  refine scall_of (n := 32) (ks := [0, 1, 2, 6, 7, 8, 9, 14, 15, 16, 17, 18, 30]) Tryz.func47 rfl rfl (Nat.le_of_ble_eq_true rfl) ?_
  refine sw_max (i := 0) rfl fun hm => ?_
  rw [List.length_map] at hm
  unfold maxLen at hm
  refine sq111 ?_
  refine sw_cond rfl (fun g1 => ?_) (fun g1 => ?_)
  · have hE : decide (xs = ys) = false := decide_eq_false (by rintro rfl; simp at g1)
    refine sq7 ?_
    apply aend; exact resT
    · exact ⟨by rw [hE]; rfl, rfl⟩
    · exact stleT
  have hl : xs.length = ys.length := by simp at g1; omega
  refine sq4 ?_
  refine sq43 ?_
  refine lp (β := Nat) (fun k => ⟨[(1, .ro 2 (ys.map encCo) .any), (2, .fn (.func f) [] []), (15, .ro 2 (xs.map encCo) .any), (16, .int .i64 xs.length), (17, .int .i64 k)], []⟩) (fun k => k ≤ xs.length ∧ xs.take k = ys.take k) (fun k => xs.length - k) 0 sgoT ⟨Nat.zero_le _, rfl⟩ ?_
  rintro k ⟨hk, ht⟩
  refine sq42 ?_
  refine sw_cond rfl (fun g4 => ?_) (fun g4 => ?_)
  · have hlt : k < xs.length := by simp at g4; omega
    obtain ⟨x, hx⟩ : ∃ x, xs[k]? = some x := ⟨_, List.getElem?_eq_getElem hlt⟩
    obtain ⟨y, hy⟩ : ∃ y, ys[k]? = some y := ⟨_, List.getElem?_eq_getElem (by omega)⟩
    refine sq4 ?_
    refine sq69 ?_
    apply al; rfl; (exact zcT); refine freshT fun r8 h8 => ?_; repeat rcases h8 with ⟨_, h8⟩
    refine lo (lop_assign (E rfl)) rfl ?_
    apply stp; rfl; rfl; rfl; rfl; (exact sputT)
    refine sq84 ?_
    refine sq69 ?_
    apply al; rfl; (exact zcT); refine freshT fun r9 h9 => ?_; repeat rcases h9 with ⟨_, h9⟩
    apply stp; rfl; rfl; rfl; rfl; (exact sputT)
    refine sq38 ?_
    refine z99 ?_
    refine z99 ?_
    refine cf_ [] rfl hf.1 (hf.2 x y (hox x (List.mem_of_getElem? hx)) (hoy y (List.mem_of_getElem? hy))) rfl argsleT stleT ?_
    rintro _ σ' ⟨rfl, rfl⟩ h29
    apply rs_sto; exact nflT
    refine sq59 ?_
    refine sw_cond rfl (fun g7 => ?_) (fun g7 => ?_)
    · have hne : x ≠ y := by simpa using g7
      have hE : decide (xs = ys) = false := decide_eq_false (by rintro rfl; rw [hx] at hy; exact hne (Option.some.inj hy))
      refine sq7 ?_
      apply aend; exact resT
      · exact ⟨by rw [hE]; rfl, rfl⟩
      · exact stleT
    refine sq54 ?_
    have hxy : x = y := by simpa using g7
    refine ⟨k + 1, ⟨hlt, by rw [List.take_add_one, List.take_add_one, ht, hx, hy, hxy]⟩, by show xs.length - (k + 1) < xs.length - k; omega, ?_⟩
    exact sgoT
  have hE : decide (xs = ys) = true := decide_eq_true (by simp at g4; rwa [List.take_of_length_le (by omega), List.take_of_length_le (by omega)] at ht)
  refine sq7 ?_
  apply aend; exact resT
  · exact ⟨by rw [hE]; rfl, rfl⟩
  · exact stleT
theorem eqf_da {f : FuncId} {ok : Da → Prop} (hf : (∀ args w, (callFunc f args).run Tryz.prog w = .ok (.enter f args) w) ∧ ∀ x y, ok x → ok y → SCall Tryz.prog f ([] ++ [.agg (encDa x), .agg (encDa y)] ++ []) [] (fun r σ => r = .bool (decide (x = y)) ∧ σ = [])) (xs ys : List Da) (hox : ∀ x ∈ xs, ok x) (hoy : ∀ y ∈ ys, ok y) : SCall Tryz.prog 51 [.ro 2 (xs.map encDa) .any, .ro 2 (ys.map encDa) .any, .fn (.func f) [] []] [] (fun r σ => r = .bool (decide (xs = ys)) ∧ σ = []) := by
  refine scall_of (n := 32) (ks := [0, 1, 2, 6, 7, 8, 9, 14, 15, 16, 17, 18, 30]) Tryz.func51 rfl rfl (Nat.le_of_ble_eq_true rfl) ?_
  refine sw_max (i := 0) rfl fun hm => ?_
  rw [List.length_map] at hm
  unfold maxLen at hm
  refine sq111 ?_
  refine sw_cond rfl (fun g1 => ?_) (fun g1 => ?_)
  · have hE : decide (xs = ys) = false := decide_eq_false (by rintro rfl; simp at g1)
    refine sq7 ?_
    apply aend; exact resT
    · exact ⟨by rw [hE]; rfl, rfl⟩
    · exact stleT
  have hl : xs.length = ys.length := by simp at g1; omega
  refine sq4 ?_
  refine sq43 ?_
  refine lp (β := Nat) (fun k => ⟨[(1, .ro 2 (ys.map encDa) .any), (2, .fn (.func f) [] []), (15, .ro 2 (xs.map encDa) .any), (16, .int .i64 xs.length), (17, .int .i64 k)], []⟩) (fun k => k ≤ xs.length ∧ xs.take k = ys.take k) (fun k => xs.length - k) 0 sgoT ⟨Nat.zero_le _, rfl⟩ ?_
  rintro k ⟨hk, ht⟩
  refine sq42 ?_
  refine sw_cond rfl (fun g4 => ?_) (fun g4 => ?_)
  · have hlt : k < xs.length := by simp at g4; omega
    obtain ⟨x, hx⟩ : ∃ x, xs[k]? = some x := ⟨_, List.getElem?_eq_getElem hlt⟩
    obtain ⟨y, hy⟩ : ∃ y, ys[k]? = some y := ⟨_, List.getElem?_eq_getElem (by omega)⟩
    refine sq4 ?_
    refine sq69 ?_
    apply al; rfl; (exact zcT); refine freshT fun r8 h8 => ?_; repeat rcases h8 with ⟨_, h8⟩
    refine lo (lop_assign (E rfl)) rfl ?_
    apply stp; rfl; rfl; rfl; rfl; (exact sputT)
    refine sq84 ?_
    refine sq69 ?_
    apply al; rfl; (exact zcT); refine freshT fun r9 h9 => ?_; repeat rcases h9 with ⟨_, h9⟩
    apply stp; rfl; rfl; rfl; rfl; (exact sputT)
    refine sq38 ?_
    refine z99 ?_
    refine z99 ?_
    refine cf_ [] rfl hf.1 (hf.2 x y (hox x (List.mem_of_getElem? hx)) (hoy y (List.mem_of_getElem? hy))) rfl argsleT stleT ?_
    rintro _ σ' ⟨rfl, rfl⟩ h29
    apply rs_sto; exact nflT
    refine sq59 ?_
    refine sw_cond rfl (fun g7 => ?_) (fun g7 => ?_)
    · have hne : x ≠ y := by simpa using g7
      have hE : decide (xs = ys) = false := decide_eq_false (by rintro rfl; rw [hx] at hy; exact hne (Option.some.inj hy))
      refine sq7 ?_
      apply aend; exact resT
      · exact ⟨by rw [hE]; rfl, rfl⟩
      · exact stleT
    refine sq54 ?_
    have hxy : x = y := by simpa using g7
    refine ⟨k + 1, ⟨hlt, by rw [List.take_add_one, List.take_add_one, ht, hx, hy, hxy]⟩, by show xs.length - (k + 1) < xs.length - k; omega, ?_⟩
    exact sgoT
  have hE : decide (xs = ys) = true := decide_eq_true (by simp at g4; rwa [List.take_of_length_le (by omega), List.take_of_length_le (by omega)] at ht)
  refine sq7 ?_
  apply aend; exact resT
  · exact ⟨by rw [hE]; rfl, rfl⟩
  · exact stleT
theorem eqf_ins {f : FuncId} {ok : Ins → Prop} (hf : (∀ args w, (callFunc f args).run Tryz.prog w = .ok (.enter f args) w) ∧ ∀ x y, ok x → ok y → SCall Tryz.prog f ([] ++ [.agg ((iv .any) x), .agg ((iv .any) y)] ++ []) [] (fun r σ => r = .bool (decide (x = y)) ∧ σ = [])) (xs ys : List Ins) (hox : ∀ x ∈ xs, ok x) (hoy : ∀ y ∈ ys, ok y) : SCall Tryz.prog 49 [.ro 4 (xs.map (iv .any)) .any, .ro 4 (ys.map (iv .any)) .any, .fn (.func f) [] []] [] (fun r σ => r = .bool (decide (xs = ys)) ∧ σ = []) := by
  refine scall_of (n := 32) (ks := [0, 1, 2, 6, 7, 8, 9, 14, 15, 16, 17, 18, 30]) Tryz.func49 rfl rfl (Nat.le_of_ble_eq_true rfl) ?_
  refine sw_max (i := 0) rfl fun hm => ?_
  rw [List.length_map] at hm
  unfold maxLen at hm
  refine sq111 ?_
  refine sw_cond rfl (fun g1 => ?_) (fun g1 => ?_)
  · have hE : decide (xs = ys) = false := decide_eq_false (by rintro rfl; simp at g1)
    refine sq7 ?_
    apply aend; exact resT
    · exact ⟨by rw [hE]; rfl, rfl⟩
    · exact stleT
  have hl : xs.length = ys.length := by simp at g1; omega
  refine sq4 ?_
  refine sq43 ?_
  refine lp (β := Nat) (fun k => ⟨[(1, .ro 4 (ys.map (iv .any)) .any), (2, .fn (.func f) [] []), (15, .ro 4 (xs.map (iv .any)) .any), (16, .int .i64 xs.length), (17, .int .i64 k)], []⟩) (fun k => k ≤ xs.length ∧ xs.take k = ys.take k) (fun k => xs.length - k) 0 sgoT ⟨Nat.zero_le _, rfl⟩ ?_
  rintro k ⟨hk, ht⟩
  refine sq42 ?_
  refine sw_cond rfl (fun g4 => ?_) (fun g4 => ?_)
  · have hlt : k < xs.length := by simp at g4; omega
    obtain ⟨x, hx⟩ : ∃ x, xs[k]? = some x := ⟨_, List.getElem?_eq_getElem hlt⟩
    obtain ⟨y, hy⟩ : ∃ y, ys[k]? = some y := ⟨_, List.getElem?_eq_getElem (by omega)⟩
    refine sq4 ?_
    refine sq69 ?_
    apply al; rfl; (exact zcT); refine freshT fun r8 h8 => ?_; repeat rcases h8 with ⟨_, h8⟩
    refine lo (lop_assign (E rfl)) rfl ?_
    apply stp; rfl; rfl; rfl; rfl; (exact sputT)
    refine sq84 ?_
    refine sq69 ?_
    apply al; rfl; (exact zcT); refine freshT fun r9 h9 => ?_; repeat rcases h9 with ⟨_, h9⟩
    apply stp; rfl; rfl; rfl; rfl; (exact sputT)
    refine sq38 ?_
    refine z99 ?_
    refine z99 ?_
    refine cf_ [] rfl hf.1 (hf.2 x y (hox x (List.mem_of_getElem? hx)) (hoy y (List.mem_of_getElem? hy))) rfl argsleT stleT ?_
    rintro _ σ' ⟨rfl, rfl⟩ h29
    apply rs_sto; exact nflT
    refine sq59 ?_
    refine sw_cond rfl (fun g7 => ?_) (fun g7 => ?_)
    · have hne : x ≠ y := by simpa using g7
      have hE : decide (xs = ys) = false := decide_eq_false (by rintro rfl; rw [hx] at hy; exact hne (Option.some.inj hy))
      refine sq7 ?_
      apply aend; exact resT
      · exact ⟨by rw [hE]; rfl, rfl⟩
      · exact stleT
    refine sq54 ?_
    have hxy : x = y := by simpa using g7
    refine ⟨k + 1, ⟨hlt, by rw [List.take_add_one, List.take_add_one, ht, hx, hy, hxy]⟩, by show xs.length - (k + 1) < xs.length - k; omega, ?_⟩
    exact sgoT
  have hE : decide (xs = ys) = true := decide_eq_true (by simp at g4; rwa [List.take_of_length_le (by omega), List.take_of_length_le (by omega)] at ht)
  refine sq7 ?_
  apply aend; exact resT
  · exact ⟨by rw [hE]; rfl, rfl⟩
  · exact stleT
end Go.Proofs.YtfihcehdoikfkaaGreat
/-
  Modules against one another.
-/
namespace Go.Proofs.YtfihcehdoikfkaaGreat
open Go.RowKit Go.ChangeShapes Go.WideShapes Go.ChangeAt Go.Deep
attribute [local irreducible] SW RS RD AThen ABlock
/-- part by part -/
def eqM (a b : Md) : Bool := decide (a.ty = b.ty) && decide (a.el = b.el) && decide (a.co = b.co) && decide (a.da = b.da) && decide (a.im = b.im) && decide (a.fn = b.fn) && decide (a.tb = b.tb) && decide (a.me = b.me) && decide (a.gl = b.gl) && decide (a.ex = b.ex)
theorem eqM_iff {a b : Md} : eqM a b = true ↔ a = b := by
  unfold eqM
  simp only [Bool.and_eq_true, decide_eq_true_eq]
  constructor
  · rintro ⟨⟨⟨⟨⟨⟨⟨⟨⟨h1, h2⟩, h3⟩, h4⟩, h5⟩, h6⟩, h7⟩, h8⟩, h9⟩, h10⟩
    cases a; cases b; simp_all
  · rintro rfl
    simp
theorem eqM_self (a : Md) : eqM a a = true := eqM_iff.2 rfl
theorem dec_ins (x y : Ins) : eqN x y = decide (x = y) := by
  rw [Bool.eq_iff_iff, eqN_iff, decide_eq_true_iff]
theorem eq_instr : (∀ args w, (callFunc 50 args).run Tryz.prog w = .ok (.enter 50 args) w) ∧ ∀ x y : Ins, True → True → SCall Tryz.prog 50 ([] ++ [.agg (iv .any x), .agg (iv .any y)] ++ []) [] (fun r σ => r = .bool (decide (x = y)) ∧ σ = []) :=
  ⟨Tryz.call50, fun x y _ _ => by rw [← dec_ins]; exact instr_eq .any .any x y⟩
theorem eq_type : (∀ args w, (callFunc 43 args).run Tryz.prog w = .ok (.enter 43 args) w) ∧ ∀ x y : FT, True → True → SCall Tryz.prog 43 ([] ++ [.agg (encFT x), .agg (encFT y)] ++ []) [] (fun r σ => r = .bool (decide (x = y)) ∧ σ = []) := by
  refine ⟨Tryz.call43, fun x y _ _ => ?_⟩
  obtain ⟨p1, v1⟩ := x
  obtain ⟨p2, v2⟩ := y
  have hE : decide ((⟨p1, v1⟩ : FT) = ⟨p2, v2⟩) = if decide (p1 = p2) = true then decide (v1 = v2) else false := by rw [ite_and, Bool.eq_iff_iff]; simp
  refine scall_of (n := 17) (ks := [0, 1, 2, 3, 4]) Tryz.func43 rfl rfl (Nat.le_of_ble_eq_true rfl) ?_
  unfold encFT
  refine sq3 ?_
  apply bx; rfl; rfl; (exact zcT); rfl; refine freshT fun r2 h2 => ?_; repeat rcases h2 with ⟨_, h2⟩
  apply bx; rfl; rfl; (exact zcT); rfl; refine freshT fun r3 h3 => ?_; repeat rcases h3 with ⟨_, h3⟩
  refine sq112 ?_
  refine puA Tryz.call44 (lib_equal_int p1 p2) rfl pargsT nofT ?_
  refine sq81 ?_
  refine pugA rfl rfl Tryz.call44 (fun _ => (lib_equal_int v1 v2)) rfl pargsT nofT ?_
  refine sq28 ?_
  apply aend; exact resT
  · exact ⟨by rw [hE]; rfl, rfl⟩
  · exact stleT
theorem eq_elem : (∀ args w, (callFunc 46 args).run Tryz.prog w = .ok (.enter 46 args) w) ∧ ∀ x y : El, True → True → SCall Tryz.prog 46 ([] ++ [.agg (encEl x), .agg (encEl y)] ++ []) [] (fun r σ => r = .bool (decide (x = y)) ∧ σ = []) := by
  refine ⟨Tryz.call46, fun x y _ _ => ?_⟩
  obtain ⟨p1, v1⟩ := x
  obtain ⟨p2, v2⟩ := y
  have hE : decide ((⟨p1, v1⟩ : El) = ⟨p2, v2⟩) = if (p1 == p2) = true then decide (v1 = v2) else false := by rw [ite_and, Bool.eq_iff_iff]; simp
  refine scall_of (n := 17) (ks := [0, 1, 2, 3, 4]) Tryz.func46 rfl rfl (Nat.le_of_ble_eq_true rfl) ?_
  unfold encEl
  refine sq3 ?_
  apply bx; rfl; rfl; (exact zcT); rfl; refine freshT fun r2 h2 => ?_; repeat rcases h2 with ⟨_, h2⟩
  apply bx; rfl; rfl; (exact zcT); rfl; refine freshT fun r3 h3 => ?_; repeat rcases h3 with ⟨_, h3⟩
  refine sq112 ?_
  refine lo (lop_eql (E rfl) (E rfl)) rfl ?_
  refine sq81 ?_
  refine pugA rfl rfl Tryz.call44 (fun _ => (lib_equal_int v1 v2)) rfl pargsT nofT ?_
  refine sq28 ?_
  apply aend; exact resT
  · exact ⟨by rw [hE]; rfl, rfl⟩
  · exact stleT
theorem eq_code : (∀ args w, (callFunc 48 args).run Tryz.prog w = .ok (.enter 48 args) w) ∧ ∀ x y : Co, True → True → SCall Tryz.prog 48 ([] ++ [.agg (encCo x), .agg (encCo y)] ++ []) [] (fun r σ => r = .bool (decide (x = y)) ∧ σ = []) := by
  refine ⟨Tryz.call48, fun x y _ _ => ?_⟩
  obtain ⟨p1, v1⟩ := x
  obtain ⟨p2, v2⟩ := y
  have hE : decide ((⟨p1, v1⟩ : Co) = ⟨p2, v2⟩) = if decide (p1 = p2) = true then decide (v1 = v2) else false := by rw [ite_and, Bool.eq_iff_iff]; simp
  refine scall_of (n := 17) (ks := [0, 1, 2, 3, 4]) Tryz.func48 rfl rfl (Nat.le_of_ble_eq_true rfl) ?_
  unfold encCo
  refine sq3 ?_
  apply bx; rfl; rfl; (exact zcT); rfl; refine freshT fun r2 h2 => ?_; repeat rcases h2 with ⟨_, h2⟩
  apply bx; rfl; rfl; (exact zcT); rfl; refine freshT fun r3 h3 => ?_; repeat rcases h3 with ⟨_, h3⟩
  refine sq112 ?_
  refine puA Tryz.call44 (lib_equal_int p1 p2) rfl pargsT nofT ?_
  refine sq81 ?_
  refine pugA rfl rfl Tryz.call49 (fun _ => (eqf_ins eq_instr v1 v2 (fun _ _ => True.intro) (fun _ _ => True.intro))) rfl pargsT nofT ?_
  refine sq28 ?_
  apply aend; exact resT
  · exact ⟨by rw [hE]; rfl, rfl⟩
  · exact stleT
theorem eq_data : (∀ args w, (callFunc 52 args).run Tryz.prog w = .ok (.enter 52 args) w) ∧ ∀ x y : Da, True → True → SCall Tryz.prog 52 ([] ++ [.agg (encDa x), .agg (encDa y)] ++ []) [] (fun r σ => r = .bool (decide (x = y)) ∧ σ = []) := by
  refine ⟨Tryz.call52, fun x y _ _ => ?_⟩
  obtain ⟨p1, v1⟩ := x
  obtain ⟨p2, v2⟩ := y
  have hE : decide ((⟨p1, v1⟩ : Da) = ⟨p2, v2⟩) = if (p1 == p2) = true then decide (v1 = v2) else false := by rw [ite_and, Bool.eq_iff_iff]; simp
  refine scall_of (n := 17) (ks := [0, 1, 2, 3, 4]) Tryz.func52 rfl rfl (Nat.le_of_ble_eq_true rfl) ?_
  unfold encDa
  refine sq3 ?_
  apply bx; rfl; rfl; (exact zcT); rfl; refine freshT fun r2 h2 => ?_; repeat rcases h2 with ⟨_, h2⟩
  apply bx; rfl; rfl; (exact zcT); rfl; refine freshT fun r3 h3 => ?_; repeat rcases h3 with ⟨_, h3⟩
  refine sq112 ?_
  refine lo (lop_eql (E rfl) (E rfl)) rfl ?_
  refine sq81 ?_
  refine pugA rfl rfl Tryz.call53 (fun _ => (eqs_u8 v1 v2 (fun _ _ => True.intro) (fun _ _ => True.intro))) rfl pargsT nofT ?_
  refine sq28 ?_
  apply aend; exact resT
  · exact ⟨by rw [hE]; rfl, rfl⟩
  · exact stleT
theorem wasm_eq (a c : Md) (ha : a.W) (hc : c.W) : SCall Tryz.prog 15 [.agg (encMd a), .agg (encMd c)] [] (fun r σ => r = .bool (eqM a c) ∧ σ = []) := by
  obtain ⟨a1, a2, -, -, -⟩ := ha
  obtain ⟨c1, c2, -, -, -⟩ := hc
  obtain ⟨ty, im, fn, tb, me, gl, ex, el, co, da⟩ := a
  obtain ⟨ty', im', fn', tb', me', gl', ex', el', co', da'⟩ := c
  dsimp only at a1 a2 c1 c2
  have hE : ∀ (a b c d e f g h i j : Bool), (if (if (if (if (if (if (if (if (if a = true then b else false) = true then c else false) = true then d else false) = true then e else false) = true then f else false) = true then g else false) = true then h else false) = true then i else false) = true then j else false) = (a && b && c && d && e && f && g && h && i && j) := by
    intro a b c d e f g h i j; simp only [ite_and]
  refine scall_of (n := 81) (ks := [0, 1, 2, 3, 4, 5, 6, 7, 8]) Tryz.func15 rfl rfl (Nat.le_of_ble_eq_true rfl) ?_
  unfold encMd
  dsimp only
  refine sq3 ?_
  apply bx; rfl; rfl; (exact zcT); rfl; refine freshT fun r2 h2 => ?_; repeat rcases h2 with ⟨_, h2⟩
  apply bx; rfl; rfl; (exact zcT); rfl; refine freshT fun r3 h3 => ?_; repeat rcases h3 with ⟨_, h3⟩
  refine sq112 ?_
  refine puA Tryz.call42 (eqf_ft eq_type ty ty' (fun _ _ => True.intro) (fun _ _ => True.intro)) rfl pargsT nofT ?_
  refine sq112 ?_
  refine puA Tryz.call45 (eqf_el eq_elem el el' (fun _ _ => True.intro) (fun _ _ => True.intro)) rfl pargsT nofT ?_
  refine sq112 ?_
  refine puA Tryz.call47 (eqf_co eq_code co co' (fun _ _ => True.intro) (fun _ _ => True.intro)) rfl pargsT nofT ?_
  refine sq112 ?_
  refine puA Tryz.call51 (eqf_da eq_data da da' (fun _ _ => True.intro) (fun _ _ => True.intro)) rfl pargsT nofT ?_
  refine sq27 ?_
  refine sq9 ?_
  refine sq79 ?_
  refine sq79 ?_
  refine z68 ?_
  refine sq81 ?_
  refine pugA rfl rfl Tryz.call54 (fun _ => (eqs_im im im' a1 c1)) rfl pargsT nofT ?_
  refine z68 ?_
  refine sq81 ?_
  refine pugA rfl rfl Tryz.call44 (fun _ => (lib_equal_int fn fn')) rfl pargsT nofT ?_
  refine z68 ?_
  refine sq17 ?_
  refine z140 ?_
  refine z114 ?_
  refine z140 ?_
  refine lg rfl rfl (lop_eql_li (a := tb) (b := tb') (W rfl id) (W rfl id)) rfl ?_
  refine z68 ?_
  refine sq17 ?_
  refine z140 ?_
  refine z114 ?_
  refine z140 ?_
  refine lg rfl rfl (lop_eql_li (a := me) (b := me') (W rfl id) (W rfl id)) rfl ?_
  refine z68 ?_
  refine sq81 ?_
  refine pugA rfl rfl Tryz.call55 (fun _ => (eqs_gl gl gl' (fun _ _ => True.intro) (fun _ _ => True.intro))) rfl pargsT nofT ?_
  refine z68 ?_
  refine sq81 ?_
  refine pugA rfl rfl Tryz.call56 (fun _ => (eqs_ex ex ex' a2 c2)) rfl pargsT nofT ?_
  refine sq28 ?_
  apply aend; exact resT
  · exact ⟨by simp only [resAV]; rw [hE]; rfl, rfl⟩
  · exact stleT
/-
  The document's Eq.
-/
theorem not_none3 {a b c : Bool} (h : (if (if (!a) = true then true else !b) = true then true else !c) = false) : (a && b && c) = true := by cases a <;> cases b <;> cases c <;> simp_all
theorem not_some3 {a b c : Bool} (h : (if (if (!a) = true then true else !b) = true then true else !c) = true) : (a && b && c) = false := by cases a <;> cases b <;> cases c <;> simp_all
def eqP (a b : Md) : Bool := decide (a.el = b.el ∧ a.co = b.co ∧ a.da = b.da)
def eqH (a b : Md) : Bool := decide (a.ty = b.ty ∧ a.im = b.im ∧ a.fn = b.fn ∧ a.tb = b.tb ∧ a.me = b.me ∧ a.gl = b.gl ∧ a.ex = b.ex)
theorem eqHP (a b : Md) : eqM a b = (eqH a b && eqP a b) := by
  unfold eqM eqH eqP
  rw [Bool.eq_iff_iff]
  simp only [Bool.and_eq_true, decide_eq_true_eq]
  constructor
  · rintro ⟨⟨⟨⟨⟨⟨⟨⟨⟨h1, h2⟩, h3⟩, h4⟩, h5⟩, h6⟩, h7⟩, h8⟩, h9⟩, h10⟩
    exact ⟨⟨h1, h5, h6, h7, h8, h9, h10⟩, h2, h3, h4⟩
  · rintro ⟨⟨h1, h5, h6, h7, h8, h9, h10⟩, h2, h3, h4⟩
    exact ⟨⟨⟨⟨⟨⟨⟨⟨⟨h1, h2⟩, h3⟩, h4⟩, h5⟩, h6⟩, h7⟩, h8⟩, h9⟩, h10⟩
theorem re_limits (a c : Li) : SCall Tryz.prog 57 [.agg (encLi a), .agg (encLi c)] [] (fun r σ => r = .bool (decide (a = c)) ∧ σ = []) := by
  have hE : decide (a = c) = if (if (a.has == c.has) = true then a.mn == c.mn else false) = true then a.mx == c.mx else false := by
    rw [ite_and, ite_and, Bool.eq_iff_iff]; cases a; cases c; simp [and_assoc]
  rw [hE]
  refine scall_of (n := 24) (ks := [0, 1, 2, 3, 4]) Tryz.func57 rfl rfl (Nat.le_of_ble_eq_true rfl) ?_
  unfold encLi
  refine sq3 ?_
  apply bx; rfl; rfl; (exact zcT); rfl; refine freshT fun r2 h2 => ?_; repeat rcases h2 with ⟨_, h2⟩
  apply bx; rfl; rfl; (exact zcT); rfl; refine freshT fun r3 h3 => ?_; repeat rcases h3 with ⟨_, h3⟩
  refine sq112 ?_
  refine lo (lop_beql (E rfl) (E rfl)) rfl ?_
  refine sq81 ?_
  refine z128 ?_
  refine z68 ?_
  refine sq81 ?_
  refine z128 ?_
  refine sq28 ?_
  apply aend; exact resT
  · exact ⟨rfl, rfl⟩
  · exact stleT
theorem re_parts (a c : Md) (za : a.Z) (zc : c.Z) (ba : ∀ x ∈ a.co, x.bd.length ≤ 100000) (bc : ∀ x ∈ c.co, x.bd.length ≤ 100000) (da1 : ∀ x ∈ a.da, ∀ c ∈ x.bs, c < 256) (dc1 : ∀ x ∈ c.da, ∀ c ∈ x.bs, c < 256) : SCall Tryz.prog 58 [.agg (encMd a), .agg (encMd c)] [] (fun r σ => r = .bool (eqP a c) ∧ σ = []) := by
  obtain ⟨-, -, -, -, -, ⟨z1, z2⟩, ⟨z3, z4⟩, ⟨z5, z6⟩⟩ := za
  obtain ⟨-, -, -, -, -, ⟨y1, y2⟩, ⟨y3, y4⟩, ⟨y5, y6⟩⟩ := zc
  obtain ⟨ty, im, fn, tb, me, gl, ex, el, co, da⟩ := a
  obtain ⟨ty', im', fn', tb', me', gl', ex', el', co', da'⟩ := c
  dsimp only at z1 z2 z3 z4 z5 z6 y1 y2 y3 y4 y5 y6 ba bc da1 dc1
  refine scall_of (n := 139) (ks := [0, 1, 2, 3, 4, 5, 6, 7, 8, 9, 34, 39, 70, 75, 101, 106, 138]) Tryz.func58 rfl rfl (Nat.le_of_ble_eq_true rfl) ?_
  unfold encMd
  dsimp only
  refine sq3 ?_
  apply bx; rfl; rfl; (exact zcT); rfl; refine freshT fun r2 h2 => ?_; repeat rcases h2 with ⟨_, h2⟩
  apply bx; rfl; rfl; (exact zcT); rfl; refine freshT fun r3 h3 => ?_; repeat rcases h3 with ⟨_, h3⟩
  refine sq41 ?_
  refine z14 ?_
  refine sq12 ?_
  refine z14 ?_
  refine lo (lop_neq (E rfl) (E rfl)) rfl ?_
  refine sq39 ?_
  refine z124 ?_
  refine sq62 ?_
  refine z124 ?_
  refine z167 ?_
  refine z113 ?_
  refine sq39 ?_
  refine z124 ?_
  refine sq62 ?_
  refine z124 ?_
  refine z167 ?_
  refine sq105 ?_
  refine sw_cond rfl (fun g1 => ?_) (fun g1 => ?_)
  · have h3 := not_some3 (a := (el.length : Int) == el'.length) (b := (co.length : Int) == co'.length) (c := (da.length : Int) == da'.length) g1
    have hE : eqP ⟨ty, im, fn, tb, me, gl, ex, el, co, da⟩ ⟨ty', im', fn', tb', me', gl', ex', el', co', da'⟩ = false := by refine decide_eq_false ?_; rintro ⟨e1, e2, e3⟩; dsimp only at e1 e2 e3; rw [e1, e2, e3] at h3; simp at h3
    refine sq7 ?_
    apply aend; exact resT
    · exact ⟨by rw [hE]; rfl, rfl⟩
    · exact stleT
  have h3 := not_none3 (a := (el.length : Int) == el'.length) (b := (co.length : Int) == co'.length) (c := (da.length : Int) == da'.length) g1
  simp only [Bool.and_eq_true, beq_iff_eq] at h3
  obtain ⟨⟨hl1, hl2⟩, hl3⟩ := h3
  refine sq7 ?_
  refine lp (β := Nat) (fun j => ⟨[(2, .ptr r2 0), (3, .ptr r3 0), (5, .int .i64 j)], [(r3, .box 33 (encMd ⟨ty', im', fn', tb', me', gl', ex', el', co', da'⟩)), (r2, .box 33 (encMd ⟨ty, im, fn, tb, me, gl, ex, el, co, da⟩))]⟩) (fun j => j ≤ el.length ∧ el.take j = el'.take j) (fun j => el.length - j) 0 sgoT ⟨Nat.zero_le _, rfl⟩ ?_
  rintro j ⟨hj, htel⟩
  unfold encMd
  dsimp only
  refine sq89 ?_
  refine sw_cond rfl (fun g4 => ?_) (fun g4 => ?_)
  · have hlt : j < el.length := by simp at g4; omega
    have hlt2 : j < el'.length := by omega
    obtain ⟨⟨o1, f1⟩, hx⟩ : ∃ x, el[j]? = some x := ⟨_, List.getElem?_eq_getElem hlt⟩
    obtain ⟨⟨o2, f2⟩, hy⟩ : ∃ x, el'[j]? = some x := ⟨_, List.getElem?_eq_getElem hlt2⟩
    refine ctlT ?_
    refine rgD [(0, true), (1, true), (2, true), (3, true), (4, true), (5, true), (6, true), (7, true), (8, true), (9, true), (10, true), (11, true), (12, true), (13, true), (14, true), (15, true), (16, true), (17, true), (18, true), (19, true), (20, true), (21, true), (22, true), (23, true), (24, true), (25, true), (26, false), (27, true), (28, true)] ?_
    refine sq87 ?_
    refine sq87 ?_
    refine z58 ?_
    refine sq98 ?_
    refine z169 ?_
    refine z156 ?_
    refine z157 ?_
    refine z170 ?_
    refine z158 ?_
    refine z168 ?_
    refine z169 ?_
    refine z156 ?_
    refine z157 ?_
    refine z170 ?_
    refine z158 ?_
    refine dpugA rfl rfl rfl Tryz.call20 (fun _ => (ref_eqInts f1 f2)) rfl pargsT nofT ?_
    refine z171 ?_
    refine z172 ?_
    refine sq91 ?_
    refine sw_cond rfl (fun g6 => ?_) (fun g6 => ?_)
    · have hn2 := not_some (a := o1 == o2) (b := decide (f1 = f2)) g6
      have hne : (⟨o1, f1⟩ : El) ≠ ⟨o2, f2⟩ := by intro e; cases e; simp at hn2
      have hE : eqP ⟨ty, im, fn, tb, me, gl, ex, el, co, da⟩ ⟨ty', im', fn', tb', me', gl', ex', el', co', da'⟩ = false := by refine decide_eq_false ?_; rintro ⟨e_el, e_co, e_da⟩; dsimp only at e_el; rw [e_el, hy] at hx; exact hne (Option.some.inj hx).symm
      refine sq7 ?_
      apply aend; exact resT
      · exact ⟨by rw [hE]; rfl, rfl⟩
      · exact stleT
    have hn2 := not_none (a := o1 == o2) (b := decide (f1 = f2)) g6
    have hxy : (⟨o1, f1⟩ : El) = ⟨o2, f2⟩ := by simp at hn2; rw [hn2.1, hn2.2]
    refine sq45 ?_
    refine ⟨j + 1, ⟨hlt, by rw [List.take_add_one, List.take_add_one, htel, hx, hy, hxy]⟩, by show el.length - (j + 1) < el.length - j; omega, ?_⟩
    exact sgoT
  have eel : el = el' := by simp at g4; rwa [List.take_of_length_le (by omega), List.take_of_length_le (by omega)] at htel
  refine sq7 ?_
  refine lp (β := Nat) (fun j => ⟨[(2, .ptr r2 0), (3, .ptr r3 0), (6, .int .i64 j)], [(r3, .box 33 (encMd ⟨ty', im', fn', tb', me', gl', ex', el', co', da'⟩)), (r2, .box 33 (encMd ⟨ty, im, fn, tb, me, gl, ex, el, co, da⟩))]⟩) (fun j => j ≤ co.length ∧ co.take j = co'.take j) (fun j => co.length - j) 0 sgoT ⟨Nat.zero_le _, rfl⟩ ?_
  rintro j ⟨hj, htco⟩
  unfold encMd
  dsimp only
  refine sq89 ?_
  refine sw_cond rfl (fun g9 => ?_) (fun g9 => ?_)
  · have hlt : j < co.length := by simp at g9; omega
    have hlt2 : j < co'.length := by omega
    obtain ⟨⟨o1, f1⟩, hx⟩ : ∃ x, co[j]? = some x := ⟨_, List.getElem?_eq_getElem hlt⟩
    obtain ⟨⟨o2, f2⟩, hy⟩ : ∃ x, co'[j]? = some x := ⟨_, List.getElem?_eq_getElem hlt2⟩
    have hb1 := ba _ (List.mem_of_getElem? hx)
    have hb2 := bc _ (List.mem_of_getElem? hy)
    dsimp only at hb1 hb2
    refine ctlT ?_
    refine rgD [(0, true), (1, true), (2, true), (3, true), (4, true), (5, true), (6, true), (7, true), (8, true), (9, true), (14, false), (14, false), (14, false), (14, false)] ?_
    refine sq61 ?_
    refine z126 ?_
    refine sq61 ?_
    refine z126 ?_
    refine rd_fork2 10 11 [(11, false), (12, false), (13, false)] [(10, false), (12, false), (13, false)] (f1 := []) (f2 := []) (by kernel_rfl) rfl rfl ?_ ?_ (.inl rfl) (.inl rfl)
    · apply hopal; infer_instance; rfl; (exact zcT); refine freshT fun r7 h7 => ?_; repeat rcases h7 with ⟨_, h7⟩
      apply dal; rfl; infer_instance; rfl; (exact zcT); refine freshT fun r8 h8 => ?_; repeat rcases h8 with ⟨_, h8⟩
      refine z95 ?_
      refine z95 ?_
      refine deT ?_
      refine sq58 ?_
      refine sq12 ?_
      refine puA Tryz.call20 (ref_eqInts o1 o2) rfl pargsT nofT ?_
      refine lo (lop_not (E rfl)) rfl ?_
      refine sq81 ?_
      refine pugA rfl rfl Tryz.call129 (fun _ => (ref_eqBody .any .any f1 f2 (by omega) (by omega))) rfl pargsT nofT ?_
      refine z130 ?_
      refine sq105 ?_
      refine sw_cond rfl (fun g12 => ?_) (fun g12 => ?_)
      · have hn2 := not_some (a := decide (o1 = o2)) (b := eqB f1 f2) g12
        have hne : (⟨o1, f1⟩ : Co) ≠ ⟨o2, f2⟩ := by intro e; cases e; unfold eqB at hn2; simp at hn2
        have hE : eqP ⟨ty, im, fn, tb, me, gl, ex, el, co, da⟩ ⟨ty', im', fn', tb', me', gl', ex', el', co', da'⟩ = false := by refine decide_eq_false ?_; rintro ⟨e_el, e_co, e_da⟩; dsimp only at e_co; rw [e_co, hy] at hx; exact hne (Option.some.inj hx).symm
        refine sq7 ?_
        apply aend; exact resT
        · exact ⟨by rw [hE]; rfl, rfl⟩
        · exact stleT
      have hn2 := not_none (a := decide (o1 = o2)) (b := eqB f1 f2) g12
      have hxy : (⟨o1, f1⟩ : Co) = ⟨o2, f2⟩ := by unfold eqB at hn2; simp at hn2; rw [hn2.1, hn2.2]
      refine sq45 ?_
      refine ⟨j + 1, ⟨hlt, by rw [List.take_add_one, List.take_add_one, htco, hx, hy, hxy]⟩, by show co.length - (j + 1) < co.length - j; omega, ?_⟩
      exact sgoT
    · apply hopal; infer_instance; rfl; (exact zcT); refine freshT fun r8 h8 => ?_; repeat rcases h8 with ⟨_, h8⟩
      apply dal; rfl; infer_instance; rfl; (exact zcT); refine freshT fun r7 h7 => ?_; repeat rcases h7 with ⟨_, h7⟩
      refine z95 ?_
      refine z95 ?_
      refine deT ?_
      refine sq58 ?_
      refine sq12 ?_
      refine puA Tryz.call20 (ref_eqInts o1 o2) rfl pargsT nofT ?_
      refine lo (lop_not (E rfl)) rfl ?_
      refine sq81 ?_
      refine pugA rfl rfl Tryz.call129 (fun _ => (ref_eqBody .any .any f1 f2 (by omega) (by omega))) rfl pargsT nofT ?_
      refine z130 ?_
      refine sq105 ?_
      refine sw_cond rfl (fun g12 => ?_) (fun g12 => ?_)
      · have hn2 := not_some (a := decide (o1 = o2)) (b := eqB f1 f2) g12
        have hne : (⟨o1, f1⟩ : Co) ≠ ⟨o2, f2⟩ := by intro e; cases e; unfold eqB at hn2; simp at hn2
        have hE : eqP ⟨ty, im, fn, tb, me, gl, ex, el, co, da⟩ ⟨ty', im', fn', tb', me', gl', ex', el', co', da'⟩ = false := by refine decide_eq_false ?_; rintro ⟨e_el, e_co, e_da⟩; dsimp only at e_co; rw [e_co, hy] at hx; exact hne (Option.some.inj hx).symm
        refine sq7 ?_
        apply aend; exact resT
        · exact ⟨by rw [hE]; rfl, rfl⟩
        · exact stleT
      have hn2 := not_none (a := decide (o1 = o2)) (b := eqB f1 f2) g12
      have hxy : (⟨o1, f1⟩ : Co) = ⟨o2, f2⟩ := by unfold eqB at hn2; simp at hn2; rw [hn2.1, hn2.2]
      refine sq45 ?_
      refine ⟨j + 1, ⟨hlt, by rw [List.take_add_one, List.take_add_one, htco, hx, hy, hxy]⟩, by show co.length - (j + 1) < co.length - j; omega, ?_⟩
      exact sgoT
  have eco : co = co' := by simp at g9; rwa [List.take_of_length_le (by omega), List.take_of_length_le (by omega)] at htco
  refine sq7 ?_
  refine lp (β := Nat) (fun j => ⟨[(2, .ptr r2 0), (3, .ptr r3 0), (9, .int .i64 j)], [(r3, .box 33 (encMd ⟨ty', im', fn', tb', me', gl', ex', el', co', da'⟩)), (r2, .box 33 (encMd ⟨ty, im, fn, tb, me, gl, ex, el, co, da⟩))]⟩) (fun j => j ≤ da.length ∧ da.take j = da'.take j) (fun j => da.length - j) 0 sgoT ⟨Nat.zero_le _, rfl⟩ ?_
  rintro j ⟨hj, htda⟩
  unfold encMd
  dsimp only
  refine sq89 ?_
  refine sw_cond rfl (fun g15 => ?_) (fun g15 => ?_)
  · have hlt : j < da.length := by simp at g15; omega
    have hlt2 : j < da'.length := by omega
    obtain ⟨⟨o1, f1⟩, hx⟩ : ∃ x, da[j]? = some x := ⟨_, List.getElem?_eq_getElem hlt⟩
    obtain ⟨⟨o2, f2⟩, hy⟩ : ∃ x, da'[j]? = some x := ⟨_, List.getElem?_eq_getElem hlt2⟩
    have hb1 := da1 _ (List.mem_of_getElem? hx)
    have hb2 := dc1 _ (List.mem_of_getElem? hy)
    refine ctlT ?_
    refine rgD [(0, true), (1, true), (2, true), (3, true), (4, true), (5, true), (6, true), (7, true), (8, true), (9, true), (10, true), (11, true), (12, true), (13, true), (14, true), (15, true), (16, true), (17, true), (18, true), (19, true), (20, true), (21, true), (22, true), (23, true), (24, true), (25, true), (26, true), (27, true), (28, true), (29, true)] ?_
    refine sq87 ?_
    refine sq87 ?_
    refine z58 ?_
    refine sq98 ?_
    refine z169 ?_
    refine z156 ?_
    refine z157 ?_
    refine z170 ?_
    refine z158 ?_
    refine z173 ?_
    refine z168 ?_
    refine z169 ?_
    refine z156 ?_
    refine z157 ?_
    refine z170 ?_
    refine z158 ?_
    refine z173 ?_
    refine z174 ?_
    refine z172 ?_
    refine sq91 ?_
    refine sw_cond rfl (fun g17 => ?_) (fun g17 => ?_)
    · have hn2 := not_some (a := o1 == o2) (b := (strU f1).toList == (strU f2).toList) g17
      have hne : (⟨o1, f1⟩ : Da) ≠ ⟨o2, f2⟩ := by intro e; cases e; simp at hn2
      have hE : eqP ⟨ty, im, fn, tb, me, gl, ex, el, co, da⟩ ⟨ty', im', fn', tb', me', gl', ex', el', co', da'⟩ = false := by refine decide_eq_false ?_; rintro ⟨e_el, e_co, e_da⟩; dsimp only at e_da; rw [e_da, hy] at hx; exact hne (Option.some.inj hx).symm
      refine sq7 ?_
      apply aend; exact resT
      · exact ⟨by rw [hE]; rfl, rfl⟩
      · exact stleT
    have hn2 := not_none (a := o1 == o2) (b := (strU f1).toList == (strU f2).toList) g17
    rw [strU_inj hb1 hb2] at hn2
    have hxy : (⟨o1, f1⟩ : Da) = ⟨o2, f2⟩ := by simp at hn2; rw [hn2.1, hn2.2]
    refine sq45 ?_
    refine ⟨j + 1, ⟨hlt, by rw [List.take_add_one, List.take_add_one, htda, hx, hy, hxy]⟩, by show da.length - (j + 1) < da.length - j; omega, ?_⟩
    exact sgoT
  have eda : da = da' := by simp at g15; rwa [List.take_of_length_le (by omega), List.take_of_length_le (by omega)] at htda
  refine sq7 ?_
  have hE : eqP ⟨ty, im, fn, tb, me, gl, ex, el, co, da⟩ ⟨ty', im', fn', tb', me', gl', ex', el', co', da'⟩ = true := decide_eq_true ⟨eel, eco, eda⟩
  apply aend; exact resT
  · exact ⟨by rw [hE]; rfl, rfl⟩
  · exact stleT
theorem ref_eq (a c : Md) (wa : a.W) (wc : c.W) (za : a.Z) (zc : c.Z) : SCall Tryz.prog 16 [.agg (encMd a), .agg (encMd c)] [] (fun r σ => r = .bool (eqM a c) ∧ σ = []) := by
  have hpt := re_parts a c za zc wa.co wc.co wa.da wc.da
  have hHP := eqHP a c
  obtain ⟨⟨z1, z2⟩, z3, z4, z5, z6, -, -, -⟩ := za
  obtain ⟨⟨y1, y2⟩, y3, y4, y5, y6, -, -, -⟩ := zc
  obtain ⟨a1, a2, -, -, -⟩ := wa
  obtain ⟨c1, c2, -, -, -⟩ := wc
  obtain ⟨ty, im, fn, tb, me, gl, ex, el, co, da⟩ := a
  obtain ⟨ty', im', fn', tb', me', gl', ex', el', co', da'⟩ := c
  dsimp only at z1 z2 z3 z4 z5 z6 y1 y2 y3 y4 y5 y6 a1 a2 c1 c2
  refine scall_of (n := 222) (ks := [0, 1, 2, 3, 4, 5, 6, 7, 8, 9, 10, 11, 12, 70, 75, 107, 112, 143, 148, 183, 188, 218]) Tryz.func16 rfl rfl (Nat.le_of_ble_eq_true rfl) ?_
  unfold encMd
  dsimp only
  refine sq3 ?_
  apply bx; rfl; rfl; (exact zcT); rfl; refine freshT fun r2 h2 => ?_; repeat rcases h2 with ⟨_, h2⟩
  apply bx; rfl; rfl; (exact zcT); rfl; refine freshT fun r3 h3 => ?_; repeat rcases h3 with ⟨_, h3⟩
  refine sq41 ?_
  refine z14 ?_
  refine sq12 ?_
  refine z14 ?_
  refine lo (lop_neq (E rfl) (E rfl)) rfl ?_
  refine sq39 ?_
  refine z124 ?_
  refine sq62 ?_
  refine z124 ?_
  refine z167 ?_
  refine z113 ?_
  refine sq81 ?_
  refine pugA rfl rfl Tryz.call20 (fun _ => (ref_eqInts fn fn')) rfl pargsT nofT ?_
  refine z130 ?_
  refine z113 ?_
  refine sq39 ?_
  refine z124 ?_
  refine sq62 ?_
  refine z124 ?_
  refine z167 ?_
  refine z113 ?_
  refine sq39 ?_
  refine z124 ?_
  refine sq62 ?_
  refine z124 ?_
  refine z167 ?_
  refine z113 ?_
  refine sq17 ?_
  refine z140 ?_
  refine z114 ?_
  refine z140 ?_
  refine pugA rfl rfl Tryz.call57 (fun _ => (re_limits tb tb')) rfl pargsT nofT ?_
  refine z130 ?_
  refine z113 ?_
  refine sq17 ?_
  refine z140 ?_
  refine z114 ?_
  refine z140 ?_
  refine pugA rfl rfl Tryz.call57 (fun _ => (re_limits me me')) rfl pargsT nofT ?_
  refine z130 ?_
  refine sq105 ?_
  rw [or7]
  refine sw_cond rfl (fun g1 => ?_) (fun g1 => ?_)
  · have hE : eqM ⟨ty, im, fn, tb, me, gl, ex, el, co, da⟩ ⟨ty', im', fn', tb', me', gl', ex', el', co', da'⟩ = false := by rw [eqHP]; unfold eqH; rw [decide_eq_false]; rfl; rintro ⟨e_ty, e_im, e_fn, e_tb, e_me, e_gl, e_ex⟩; dsimp only at e_ty e_im e_fn e_tb e_me e_gl e_ex; rw [e_ty, e_im, e_fn, e_tb, e_me, e_gl, e_ex] at g1; simp at g1
    refine sq7 ?_
    apply aend; exact resT
    · exact ⟨by rw [hE]; rfl, rfl⟩
    · exact stleT
  simp only [Bool.or_eq_false_iff, bne_eq_false_iff_eq, Bool.not_eq_false', decide_eq_true_eq] at g1
  obtain ⟨⟨⟨⟨⟨⟨m1, m2⟩, efn⟩, m3⟩, m4⟩, etb⟩, eme⟩ := g1
  refine sq7 ?_
  refine lp (β := Nat) (fun j => ⟨[(2, .ptr r2 0), (3, .ptr r3 0), (5, .int .i64 j)], [(r3, .box 33 (encMd ⟨ty', im', fn', tb', me', gl', ex', el', co', da'⟩)), (r2, .box 33 (encMd ⟨ty, im, fn, tb, me, gl, ex, el, co, da⟩))]⟩) (fun j => j ≤ ty.length ∧ ty.take j = ty'.take j) (fun j => ty.length - j) 0 sgoT ⟨Nat.zero_le _, rfl⟩ ?_
  rintro j ⟨hj, htty⟩
  unfold encMd
  dsimp only
  refine sq89 ?_
  refine sw_cond rfl (fun g4 => ?_) (fun g4 => ?_)
  · have hlt : j < ty.length := by simp at g4; omega
    have hlt2 : j < ty'.length := by omega
    obtain ⟨⟨o1, f1⟩, hx⟩ : ∃ x, ty[j]? = some x := ⟨_, List.getElem?_eq_getElem hlt⟩
    obtain ⟨⟨o2, f2⟩, hy⟩ : ∃ x, ty'[j]? = some x := ⟨_, List.getElem?_eq_getElem hlt2⟩
    refine ctlT ?_
    refine rgD [(0, true), (1, true), (2, true), (3, true), (4, true), (5, true), (6, true), (7, true), (8, true), (9, true), (10, true), (11, true), (12, false), (13, true), (14, true), (15, true), (16, true), (17, true), (18, true), (19, true), (20, true), (21, true), (22, true), (23, true), (24, true), (25, true), (26, true), (27, false), (28, true), (29, true)] ?_
    refine sq87 ?_
    refine sq87 ?_
    refine dpuA rfl Tryz.call20 (ref_eqInts o1 o2) rfl pargsT nofT ?_
    refine dlo rfl (lop_not (E rfl)) rfl ?_
    refine sq98 ?_
    refine z169 ?_
    refine z156 ?_
    refine z157 ?_
    refine z170 ?_
    refine z158 ?_
    refine z168 ?_
    refine z169 ?_
    refine z156 ?_
    refine z157 ?_
    refine z170 ?_
    refine z158 ?_
    refine dpugA rfl rfl rfl Tryz.call20 (fun _ => (ref_eqInts f1 f2)) rfl pargsT nofT ?_
    refine z171 ?_
    refine z172 ?_
    refine sq91 ?_
    refine sw_cond rfl (fun g6 => ?_) (fun g6 => ?_)
    · have hn2 := not_some (a := decide (o1 = o2)) (b := decide (f1 = f2)) g6
      have hne : (⟨o1, f1⟩ : FT) ≠ ⟨o2, f2⟩ := by intro e; cases e; simp at hn2
      have hE : eqM ⟨ty, im, fn, tb, me, gl, ex, el, co, da⟩ ⟨ty', im', fn', tb', me', gl', ex', el', co', da'⟩ = false := by rw [eqHP]; unfold eqH; rw [decide_eq_false]; rfl; rintro ⟨e_ty, e_im, e_fn, e_tb, e_me, e_gl, e_ex⟩; dsimp only at e_ty; rw [e_ty, hy] at hx; exact hne (Option.some.inj hx).symm
      refine sq7 ?_
      apply aend; exact resT
      · exact ⟨by rw [hE]; rfl, rfl⟩
      · exact stleT
    have hn2 := not_none (a := decide (o1 = o2)) (b := decide (f1 = f2)) g6
    have hxy : (⟨o1, f1⟩ : FT) = ⟨o2, f2⟩ := by simp at hn2; rw [hn2.1, hn2.2]
    refine sq45 ?_
    refine ⟨j + 1, ⟨hlt, by rw [List.take_add_one, List.take_add_one, htty, hx, hy, hxy]⟩, by show ty.length - (j + 1) < ty.length - j; omega, ?_⟩
    exact sgoT
  have ety : ty = ty' := by simp at g4; rwa [List.take_of_length_le (by omega), List.take_of_length_le (by omega)] at htty
  refine sq7 ?_
  refine lp (β := Nat) (fun j => ⟨[(2, .ptr r2 0), (3, .ptr r3 0), (6, .int .i64 j)], [(r3, .box 33 (encMd ⟨ty', im', fn', tb', me', gl', ex', el', co', da'⟩)), (r2, .box 33 (encMd ⟨ty, im, fn, tb, me, gl, ex, el, co, da⟩))]⟩) (fun j => j ≤ im.length ∧ im.take j = im'.take j) (fun j => im.length - j) 0 sgoT ⟨Nat.zero_le _, rfl⟩ ?_
  rintro j ⟨hj, htim⟩
  unfold encMd
  dsimp only
  refine sq89 ?_
  refine sw_cond rfl (fun g9 => ?_) (fun g9 => ?_)
  · have hlt : j < im.length := by simp at g9; omega
    have hlt2 : j < im'.length := by omega
    obtain ⟨⟨o1, f1, k1⟩, hx⟩ : ∃ x, im[j]? = some x := ⟨_, List.getElem?_eq_getElem hlt⟩
    obtain ⟨⟨o2, f2, k2⟩, hy⟩ : ∃ x, im'[j]? = some x := ⟨_, List.getElem?_eq_getElem hlt2⟩
    obtain ⟨⟨-, p1⟩, -, p2⟩ := a1 _ (List.mem_of_getElem? hx)
    obtain ⟨⟨-, p3⟩, -, p4⟩ := c1 _ (List.mem_of_getElem? hy)
    dsimp only at p1 p2 p3 p4
    refine ctlT ?_
    refine rgD [(0, true), (1, true), (2, true), (3, true), (4, true), (5, true), (6, true), (7, true), (8, true), (9, true), (14, false), (14, false), (14, false), (14, false)] ?_
    refine sq61 ?_
    refine z126 ?_
    refine sq61 ?_
    refine z126 ?_
    refine rd_fork2 10 11 [(11, false), (12, false), (13, false)] [(10, false), (12, false), (13, false)] (f1 := []) (f2 := []) (by kernel_rfl) rfl rfl ?_ ?_ (.inl rfl) (.inl rfl)
    · apply hopal; infer_instance; rfl; (exact zcT); refine freshT fun r7 h7 => ?_; repeat rcases h7 with ⟨_, h7⟩
      apply dal; rfl; infer_instance; rfl; (exact zcT); refine freshT fun r8 h8 => ?_; repeat rcases h8 with ⟨_, h8⟩
      refine z95 ?_
      refine z95 ?_
      refine deT ?_
      refine sq58 ?_
      refine sq12 ?_
      refine lo (lop_sneq (E rfl) (E rfl)) rfl ?_
      refine sq81 ?_
      refine z175 ?_
      refine z113 ?_
      refine sq81 ?_
      refine z167 ?_
      refine sq105 ?_
      refine sw_cond rfl (fun g12 => ?_) (fun g12 => ?_)
      · have hn2 := not_some3 (a := (strU o1).toList == (strU o2).toList) (b := (strU f1).toList == (strU f2).toList) (c := k1 == k2) g12
        have hne : (⟨o1, f1, k1⟩ : Im) ≠ ⟨o2, f2, k2⟩ := by intro e; cases e; simp at hn2
        have hE : eqM ⟨ty, im, fn, tb, me, gl, ex, el, co, da⟩ ⟨ty', im', fn', tb', me', gl', ex', el', co', da'⟩ = false := by rw [eqHP]; unfold eqH; rw [decide_eq_false]; rfl; rintro ⟨e_ty, e_im, e_fn, e_tb, e_me, e_gl, e_ex⟩; dsimp only at e_im; rw [e_im, hy] at hx; exact hne (Option.some.inj hx).symm
        refine sq7 ?_
        apply aend; exact resT
        · exact ⟨by rw [hE]; rfl, rfl⟩
        · exact stleT
      have hn2 := not_none3 (a := (strU o1).toList == (strU o2).toList) (b := (strU f1).toList == (strU f2).toList) (c := k1 == k2) g12
      rw [strU_inj p1 p3, strU_inj p2 p4] at hn2
      have hxy : (⟨o1, f1, k1⟩ : Im) = ⟨o2, f2, k2⟩ := by simp at hn2; rw [hn2.1.1, hn2.1.2, hn2.2]
      refine sq45 ?_
      refine ⟨j + 1, ⟨hlt, by rw [List.take_add_one, List.take_add_one, htim, hx, hy, hxy]⟩, by show im.length - (j + 1) < im.length - j; omega, ?_⟩
      exact sgoT
    · apply hopal; infer_instance; rfl; (exact zcT); refine freshT fun r8 h8 => ?_; repeat rcases h8 with ⟨_, h8⟩
      apply dal; rfl; infer_instance; rfl; (exact zcT); refine freshT fun r7 h7 => ?_; repeat rcases h7 with ⟨_, h7⟩
      refine z95 ?_
      refine z95 ?_
      refine deT ?_
      refine sq58 ?_
      refine sq12 ?_
      refine lo (lop_sneq (E rfl) (E rfl)) rfl ?_
      refine sq81 ?_
      refine z175 ?_
      refine z113 ?_
      refine sq81 ?_
      refine z167 ?_
      refine sq105 ?_
      refine sw_cond rfl (fun g12 => ?_) (fun g12 => ?_)
      · have hn2 := not_some3 (a := (strU o1).toList == (strU o2).toList) (b := (strU f1).toList == (strU f2).toList) (c := k1 == k2) g12
        have hne : (⟨o1, f1, k1⟩ : Im) ≠ ⟨o2, f2, k2⟩ := by intro e; cases e; simp at hn2
        have hE : eqM ⟨ty, im, fn, tb, me, gl, ex, el, co, da⟩ ⟨ty', im', fn', tb', me', gl', ex', el', co', da'⟩ = false := by rw [eqHP]; unfold eqH; rw [decide_eq_false]; rfl; rintro ⟨e_ty, e_im, e_fn, e_tb, e_me, e_gl, e_ex⟩; dsimp only at e_im; rw [e_im, hy] at hx; exact hne (Option.some.inj hx).symm
        refine sq7 ?_
        apply aend; exact resT
        · exact ⟨by rw [hE]; rfl, rfl⟩
        · exact stleT
      have hn2 := not_none3 (a := (strU o1).toList == (strU o2).toList) (b := (strU f1).toList == (strU f2).toList) (c := k1 == k2) g12
      rw [strU_inj p1 p3, strU_inj p2 p4] at hn2
      have hxy : (⟨o1, f1, k1⟩ : Im) = ⟨o2, f2, k2⟩ := by simp at hn2; rw [hn2.1.1, hn2.1.2, hn2.2]
      refine sq45 ?_
      refine ⟨j + 1, ⟨hlt, by rw [List.take_add_one, List.take_add_one, htim, hx, hy, hxy]⟩, by show im.length - (j + 1) < im.length - j; omega, ?_⟩
      exact sgoT
  have eim : im = im' := by simp at g9; rwa [List.take_of_length_le (by omega), List.take_of_length_le (by omega)] at htim
  refine sq7 ?_
  refine lp (β := Nat) (fun j => ⟨[(2, .ptr r2 0), (3, .ptr r3 0), (9, .int .i64 j)], [(r3, .box 33 (encMd ⟨ty', im', fn', tb', me', gl', ex', el', co', da'⟩)), (r2, .box 33 (encMd ⟨ty, im, fn, tb, me, gl, ex, el, co, da⟩))]⟩) (fun j => j ≤ gl.length ∧ gl.take j = gl'.take j) (fun j => gl.length - j) 0 sgoT ⟨Nat.zero_le _, rfl⟩ ?_
  rintro j ⟨hj, htgl⟩
  unfold encMd
  dsimp only
  refine sq89 ?_
  refine sw_cond rfl (fun g15 => ?_) (fun g15 => ?_)
  · have hlt : j < gl.length := by simp at g15; omega
    have hlt2 : j < gl'.length := by omega
    obtain ⟨⟨o1, f1, k1⟩, hx⟩ : ∃ x, gl[j]? = some x := ⟨_, List.getElem?_eq_getElem hlt⟩
    obtain ⟨⟨o2, f2, k2⟩, hy⟩ : ∃ x, gl'[j]? = some x := ⟨_, List.getElem?_eq_getElem hlt2⟩
    refine ctlT ?_
    refine rgD [(0, true), (1, true), (2, true), (3, true), (4, true), (5, true), (6, true), (7, true), (8, true), (9, true), (14, false), (14, false), (14, false), (14, false)] ?_
    refine sq61 ?_
    refine z126 ?_
    refine sq61 ?_
    refine z126 ?_
    refine rd_fork2 10 11 [(11, false), (12, false), (13, false)] [(10, false), (12, false), (13, false)] (f1 := []) (f2 := []) (by kernel_rfl) rfl rfl ?_ ?_ (.inl rfl) (.inl rfl)
    · apply hopal; infer_instance; rfl; (exact zcT); refine freshT fun r10 h10 => ?_; repeat rcases h10 with ⟨_, h10⟩
      apply dal; rfl; infer_instance; rfl; (exact zcT); refine freshT fun r11 h11 => ?_; repeat rcases h11 with ⟨_, h11⟩
      refine z95 ?_
      refine z95 ?_
      refine deT ?_
      refine sq58 ?_
      refine sq12 ?_
      refine lo (lop_bneq (E rfl) (E rfl)) rfl ?_
      refine sq17 ?_
      refine sq67 ?_
      refine z114 ?_
      refine sq67 ?_
      refine z167 ?_
      refine z113 ?_
      refine sq17 ?_
      refine sq67 ?_
      refine z114 ?_
      refine sq67 ?_
      refine z167 ?_
      refine sq105 ?_
      refine sw_cond rfl (fun g18 => ?_) (fun g18 => ?_)
      · have hn2 := not_some3 (a := o1 == o2) (b := f1 == f2) (c := k1 == k2) g18
        have hne : (⟨o1, f1, k1⟩ : Gl) ≠ ⟨o2, f2, k2⟩ := by intro e; cases e; simp at hn2
        have hE : eqM ⟨ty, im, fn, tb, me, gl, ex, el, co, da⟩ ⟨ty', im', fn', tb', me', gl', ex', el', co', da'⟩ = false := by rw [eqHP]; unfold eqH; rw [decide_eq_false]; rfl; rintro ⟨e_ty, e_im, e_fn, e_tb, e_me, e_gl, e_ex⟩; dsimp only at e_gl; rw [e_gl, hy] at hx; exact hne (Option.some.inj hx).symm
        refine sq7 ?_
        apply aend; exact resT
        · exact ⟨by rw [hE]; rfl, rfl⟩
        · exact stleT
      have hn2 := not_none3 (a := o1 == o2) (b := f1 == f2) (c := k1 == k2) g18
      have hxy : (⟨o1, f1, k1⟩ : Gl) = ⟨o2, f2, k2⟩ := by simp at hn2; rw [hn2.1.1, hn2.1.2, hn2.2]
      refine sq45 ?_
      refine ⟨j + 1, ⟨hlt, by rw [List.take_add_one, List.take_add_one, htgl, hx, hy, hxy]⟩, by show gl.length - (j + 1) < gl.length - j; omega, ?_⟩
      exact sgoT
    · apply hopal; infer_instance; rfl; (exact zcT); refine freshT fun r11 h11 => ?_; repeat rcases h11 with ⟨_, h11⟩
      apply dal; rfl; infer_instance; rfl; (exact zcT); refine freshT fun r10 h10 => ?_; repeat rcases h10 with ⟨_, h10⟩
      refine z95 ?_
      refine z95 ?_
      refine deT ?_
      refine sq58 ?_
      refine sq12 ?_
      refine lo (lop_bneq (E rfl) (E rfl)) rfl ?_
      refine sq17 ?_
      refine sq67 ?_
      refine z114 ?_
      refine sq67 ?_
      refine z167 ?_
      refine z113 ?_
      refine sq17 ?_
      refine sq67 ?_
      refine z114 ?_
      refine sq67 ?_
      refine z167 ?_
      refine sq105 ?_
      refine sw_cond rfl (fun g18 => ?_) (fun g18 => ?_)
      · have hn2 := not_some3 (a := o1 == o2) (b := f1 == f2) (c := k1 == k2) g18
        have hne : (⟨o1, f1, k1⟩ : Gl) ≠ ⟨o2, f2, k2⟩ := by intro e; cases e; simp at hn2
        have hE : eqM ⟨ty, im, fn, tb, me, gl, ex, el, co, da⟩ ⟨ty', im', fn', tb', me', gl', ex', el', co', da'⟩ = false := by rw [eqHP]; unfold eqH; rw [decide_eq_false]; rfl; rintro ⟨e_ty, e_im, e_fn, e_tb, e_me, e_gl, e_ex⟩; dsimp only at e_gl; rw [e_gl, hy] at hx; exact hne (Option.some.inj hx).symm
        refine sq7 ?_
        apply aend; exact resT
        · exact ⟨by rw [hE]; rfl, rfl⟩
        · exact stleT
      have hn2 := not_none3 (a := o1 == o2) (b := f1 == f2) (c := k1 == k2) g18
      have hxy : (⟨o1, f1, k1⟩ : Gl) = ⟨o2, f2, k2⟩ := by simp at hn2; rw [hn2.1.1, hn2.1.2, hn2.2]
      refine sq45 ?_
      refine ⟨j + 1, ⟨hlt, by rw [List.take_add_one, List.take_add_one, htgl, hx, hy, hxy]⟩, by show gl.length - (j + 1) < gl.length - j; omega, ?_⟩
      exact sgoT
  have egl : gl = gl' := by simp at g15; rwa [List.take_of_length_le (by omega), List.take_of_length_le (by omega)] at htgl
  refine sq7 ?_
  refine lp (β := Nat) (fun j => ⟨[(2, .ptr r2 0), (3, .ptr r3 0), (12, .int .i64 j)], [(r3, .box 33 (encMd ⟨ty', im', fn', tb', me', gl', ex', el', co', da'⟩)), (r2, .box 33 (encMd ⟨ty, im, fn, tb, me, gl, ex, el, co, da⟩))]⟩) (fun j => j ≤ ex.length ∧ ex.take j = ex'.take j) (fun j => ex.length - j) 0 sgoT ⟨Nat.zero_le _, rfl⟩ ?_
  rintro j ⟨hj, htex⟩
  unfold encMd
  dsimp only
  refine sq89 ?_
  refine sw_cond rfl (fun g21 => ?_) (fun g21 => ?_)
  · have hlt : j < ex.length := by simp at g21; omega
    have hlt2 : j < ex'.length := by omega
    obtain ⟨⟨o1, f1⟩, hx⟩ : ∃ x, ex[j]? = some x := ⟨_, List.getElem?_eq_getElem hlt⟩
    obtain ⟨⟨o2, f2⟩, hy⟩ : ∃ x, ex'[j]? = some x := ⟨_, List.getElem?_eq_getElem hlt2⟩
    obtain ⟨-, p1⟩ := a2 _ (List.mem_of_getElem? hx)
    obtain ⟨-, p3⟩ := c2 _ (List.mem_of_getElem? hy)
    dsimp only at p1 p3
    refine ctlT ?_
    refine rgD [(0, true), (1, true), (2, true), (3, true), (4, true), (5, true), (6, true), (7, true), (8, true), (9, true), (10, true), (11, true), (12, true), (13, true), (14, true), (15, true), (16, true), (17, true), (18, true), (19, true), (20, true), (21, true), (22, true), (23, true), (24, true), (25, true), (26, true), (27, true)] ?_
    refine sq87 ?_
    refine sq87 ?_
    refine z176 ?_
    refine sq98 ?_
    refine z169 ?_
    refine z156 ?_
    refine z157 ?_
    refine z170 ?_
    refine z158 ?_
    refine z168 ?_
    refine z169 ?_
    refine z156 ?_
    refine z157 ?_
    refine z170 ?_
    refine z158 ?_
    refine z177 ?_
    refine z172 ?_
    refine sq91 ?_
    refine sw_cond rfl (fun g23 => ?_) (fun g23 => ?_)
    · have hn2 := not_some (a := (strU o1).toList == (strU o2).toList) (b := f1 == f2) g23
      have hne : (⟨o1, f1⟩ : Ex) ≠ ⟨o2, f2⟩ := by intro e; cases e; simp at hn2
      have hE : eqM ⟨ty, im, fn, tb, me, gl, ex, el, co, da⟩ ⟨ty', im', fn', tb', me', gl', ex', el', co', da'⟩ = false := by rw [eqHP]; unfold eqH; rw [decide_eq_false]; rfl; rintro ⟨e_ty, e_im, e_fn, e_tb, e_me, e_gl, e_ex⟩; dsimp only at e_ex; rw [e_ex, hy] at hx; exact hne (Option.some.inj hx).symm
      refine sq7 ?_
      apply aend; exact resT
      · exact ⟨by rw [hE]; rfl, rfl⟩
      · exact stleT
    have hn2 := not_none (a := (strU o1).toList == (strU o2).toList) (b := f1 == f2) g23
    rw [strU_inj p1 p3] at hn2
    have hxy : (⟨o1, f1⟩ : Ex) = ⟨o2, f2⟩ := by simp at hn2; rw [hn2.1, hn2.2]
    refine sq45 ?_
    refine ⟨j + 1, ⟨hlt, by rw [List.take_add_one, List.take_add_one, htex, hx, hy, hxy]⟩, by show ex.length - (j + 1) < ex.length - j; omega, ?_⟩
    exact sgoT
  have eex : ex = ex' := by simp at g21; rwa [List.take_of_length_le (by omega), List.take_of_length_le (by omega)] at htex
  refine sq78 ?_
  refine z99 ?_
  refine puA Tryz.call58 hpt rfl pargsT nofT ?_
  refine sq2 ?_
  have hE : eqM ⟨ty, im, fn, tb, me, gl, ex, el, co, da⟩ ⟨ty', im', fn', tb', me', gl', ex', el', co', da'⟩ = eqP ⟨ty, im, fn, tb, me, gl, ex, el, co, da⟩ ⟨ty', im', fn', tb', me', gl', ex', el', co', da'⟩ := by rw [hHP]; unfold eqH; rw [decide_eq_true ⟨ety, eim, efn, etb, eme, egl, eex⟩, Bool.true_and]
  apply aend; exact resT
  · exact ⟨by rw [hE]; rfl, rfl⟩
  · exact stleT
/-
  The statements' Cut: a module that is not too great.
-/
/-- lists as long as any may be -/
structure Md.A (m : Md) : Prop where
  ty : m.ty.length ≤ maxLen ∧ ∀ x ∈ m.ty, x.pr.length ≤ maxLen ∧ x.rs.length ≤ maxLen
  im : m.im.length ≤ maxLen ∧ ∀ x ∈ m.im, x.mod.length ≤ maxLen ∧ x.nm.length ≤ maxLen
  fn : m.fn.length ≤ maxLen
  gl : m.gl.length ≤ maxLen
  ex : m.ex.length ≤ maxLen ∧ ∀ x ∈ m.ex, x.nm.length ≤ maxLen
  el : m.el.length ≤ maxLen ∧ ∀ x ∈ m.el, x.fs.length ≤ maxLen
  co : m.co.length ≤ maxLen ∧ ∀ x ∈ m.co, x.ls.length ≤ maxLen ∧ x.bd.length ≤ maxLen ∧ ∀ i ∈ x.bd, i.l.length ≤ maxLen
  da : m.da.length ≤ maxLen ∧ ∀ x ∈ m.da, x.bs.length ≤ maxLen
theorem ite_lt {a b : Nat} {x : Nat} (h : (if decide ((x : Int) < (a : Nat)) = true then decide ((x : Int) < (b : Nat)) else false) = true) : x < a ∧ x < b := by
  rw [ite_and] at h
  simp only [Bool.and_eq_true, decide_eq_true_eq] at h
  omega
end Go.Proofs.YtfihcehdoikfkaaGreat
/-
  The module that adds two.
-/
namespace Go.Proofs.YtfihcehdoikfkaaGreat
open Go.RowKit Go.ChangeShapes Go.WideShapes Go.ChangeAt Go.Deep
def smallM : Md := ⟨[⟨[1, 1], [1]⟩], [], [0], li0, li0, [], [⟨[97, 100, 100], 0⟩], [], [⟨[], [⟨32, 0, 0, []⟩, ⟨32, 1, 0, []⟩, ⟨106, 0, 0, []⟩]⟩], []⟩
def fun0 : Md := { md0 with fn := [0] }
theorem small_wo : smallM.WO := by
  refine ⟨⟨by simp [smallM], ?_, ?_, by simp [smallM], by simp [smallM]⟩, ?_, by simp [smallM]⟩
  · intro x hx
    obtain rfl : x = ⟨[97, 100, 100], 0⟩ := by simpa [smallM] using hx
    exact ⟨by decide, by decide⟩
  · intro x hx
    obtain rfl : x = ⟨[], [⟨32, 0, 0, []⟩, ⟨32, 1, 0, []⟩, ⟨106, 0, 0, []⟩]⟩ := by simpa [smallM] using hx
    decide
  · intro x hx
    obtain rfl : x = ⟨[], [⟨32, 0, 0, []⟩, ⟨32, 1, 0, []⟩, ⟨106, 0, 0, []⟩]⟩ := by simpa [smallM] using hx
    intro i hi
    simp only [List.mem_cons, List.not_mem_nil, or_false] at hi
    rcases hi with rfl | rfl | rfl <;> exact ⟨by decide, by decide, by decide, by decide, by decide⟩
theorem small_a : mayA smallM = true := by decide
theorem small_w : (writB smallM).length ≤ 8000 ∧ 8 < (writB smallM).length := by
  have h1 : putN ⟨32, 0, 0, []⟩ = [32, 0] := by
    have f : formN 32 = 3 := by decide
    simp [putN, putT, f, uB_lo]
  have h2 : putN ⟨32, 1, 0, []⟩ = [32, 1] := by
    have f : formN 32 = 3 := by decide
    simp [putN, putT, f, uB_lo]
  have h3 : putN ⟨106, 0, 0, []⟩ = [106] := by
    have f : formN 106 = 1 := by decide
    simp [putN, putT, f]
  have : (writB smallM).length = 41 := by
    simp [writB, smallM, headB, secB, vecB, uB_lo, ftB, kB, numB, exB, txtB, codB, runsN, putL, h1, h2, h3, oneL, li0]
  omega
theorem small_may : mayM smallM = true := by
  rw [mayM_eq, small_a, Bool.true_and]
  exact decide_eq_true small_w.1
theorem enc_small : encB smallM = writB smallM := if_pos small_may
theorem dec_small : decM (encB smallM) = (smallM, 0) := by rw [enc_small]; exact dec_back small_may small_wo.ok
theorem small_lt : ∀ c ∈ encB smallM, c < 256 := encB_lt small_wo
theorem md0_may : mayM md0 = true := by
  have h : (writB md0).length = 8 := by simp [writB, md0, headB, secB, oneL, li0]
  rw [mayM_eq, show mayA md0 = true by decide, Bool.true_and, h]
  decide
theorem enc_md0 : (encB md0).length = 8 := by
  unfold encB
  rw [if_pos md0_may]
  simp [writB, md0, headB, secB, oneL, li0]
theorem fun0_wo : fun0.WO := ⟨⟨by simp [fun0, md0], by simp [fun0, md0], by simp [fun0, md0], by simp [fun0, md0], by simp [fun0, md0]⟩, by simp [fun0, md0], by simp [fun0, md0]⟩
theorem fun0_may : mayM fun0 = false := by rw [mayM_eq, show mayA fun0 = false by decide]; rfl
theorem dec_x : decM [120] = (md0, 1) := by
  unfold decM
  rw [if_neg (by decide), if_pos (by decide)]
theorem small_ne : eqM smallM md0 = false := by decide
end Go.Proofs.YtfihcehdoikfkaaGreat
/-
  The module that adds two goes to bytes and back.
-/
namespace Go.Proofs.YtfihcehdoikfkaaGreat
open Go.RowKit Go.ChangeShapes Go.WideShapes Go.ChangeAt Go.Deep
attribute [local irreducible] SW RS RD AThen ABlock
/-- an instruction without a list -/
def encNl (x : Ins) : List AV := [.int .i64 x.op, .int .i64 x.a, .int .i64 x.b, .ro 0 [] .nil]
theorem vle_nl {l : List Ins} (h : ∀ x ∈ l, x.l = []) {k : Rk} : VLe (.ro 4 (l.map encNl) k) (.ro 4 (l.map (iv .any)) k) := by
  refine VLe.ro (by simp) ?_ ?_
  · intro x hx
    simp only [List.mem_map] at hx
    obtain ⟨o, -, rfl⟩ := hx
    exact ⟨rfl, by simp [iv, AV.cell]⟩
  · intro i e e' h1 h2
    simp only [List.getElem?_map, Option.map_eq_some_iff] at h1 h2
    obtain ⟨o, ho, rfl⟩ := h1
    obtain ⟨o', ho', rfl⟩ := h2
    obtain rfl := Option.some.inj (ho.symm.trans ho')
    have hl := h o (List.mem_of_getElem? ho)
    refine ⟨rfl, fun j a a' ha ha' => ?_⟩
    unfold iv at ha'
    rw [hl] at ha'
    match j with
    | 0 => cases ha; cases ha'; exact VLe.refl _
    | 1 => cases ha; cases ha'; exact VLe.refl _
    | 2 => cases ha; cases ha'; exact VLe.refl _
    | 3 => cases ha; cases ha'; exact VLe.empty
    | _ + 4 => cases ha
theorem vle_nco {es : List (List AV)} : VLe (.agg [.ro 0 [] .nil, .ro 4 es .any]) (.agg [.ro 1 ([].map encI) .any, .ro 4 es .any]) := by
  refine VLe.agg rfl fun j a a' ha ha' => ?_
  match j with
  | 0 => cases ha; cases ha'; exact VLe.empty
  | 1 => cases ha; cases ha'; exact VLe.refl _
  | _ + 2 => cases ha
theorem vle_md0 : VLe (.agg [.ro 0 [] .nil, .ro 0 [] .nil, .ro 0 [] .nil, .bool false, .int .i64 0, .int .i64 0, .bool false, .int .i64 0, .int .i64 0, .ro 0 [] .nil, .ro 0 [] .nil, .ro 0 [] .nil, .ro 0 [] .nil, .ro 0 [] .nil]) (.agg (encMd md0)) := by
  refine VLe.agg rfl fun j a a' ha ha' => ?_
  match j with
  | 0 => cases ha; cases ha'; exact VLe.empty
  | 1 => cases ha; cases ha'; exact VLe.empty
  | 2 => cases ha; cases ha'; exact VLe.empty
  | 3 => cases ha; cases ha'; exact VLe.refl _
  | 4 => cases ha; cases ha'; exact VLe.refl _
  | 5 => cases ha; cases ha'; exact VLe.refl _
  | 6 => cases ha; cases ha'; exact VLe.refl _
  | 7 => cases ha; cases ha'; exact VLe.refl _
  | 8 => cases ha; cases ha'; exact VLe.refl _
  | 9 => cases ha; cases ha'; exact VLe.empty
  | 10 => cases ha; cases ha'; exact VLe.empty
  | 11 => cases ha; cases ha'; exact VLe.empty
  | 12 => cases ha; cases ha'; exact VLe.empty
  | 13 => cases ha; cases ha'; exact VLe.empty
  | _ + 14 => cases ha
theorem vle_fun0 : VLe (.agg [.ro 0 [] .nil, .ro 0 [] .nil, .ro 1 [[.int .i64 0]] .any, .bool false, .int .i64 0, .int .i64 0, .bool false, .int .i64 0, .int .i64 0, .ro 0 [] .nil, .ro 0 [] .nil, .ro 0 [] .nil, .ro 0 [] .nil, .ro 0 [] .nil]) (.agg (encMd fun0)) := by
  refine VLe.agg rfl fun j a a' ha ha' => ?_
  match j with
  | 0 => cases ha; cases ha'; exact VLe.empty
  | 1 => cases ha; cases ha'; exact VLe.empty
  | 2 => cases ha; cases ha'; exact VLe.refl _
  | 3 => cases ha; cases ha'; exact VLe.refl _
  | 4 => cases ha; cases ha'; exact VLe.refl _
  | 5 => cases ha; cases ha'; exact VLe.refl _
  | 6 => cases ha; cases ha'; exact VLe.refl _
  | 7 => cases ha; cases ha'; exact VLe.refl _
  | 8 => cases ha; cases ha'; exact VLe.refl _
  | 9 => cases ha; cases ha'; exact VLe.empty
  | 10 => cases ha; cases ha'; exact VLe.empty
  | 11 => cases ha; cases ha'; exact VLe.empty
  | 12 => cases ha; cases ha'; exact VLe.empty
  | 13 => cases ha; cases ha'; exact VLe.empty
  | _ + 14 => cases ha
def smallIs : List Ins := [⟨32, 0, 0, []⟩, ⟨32, 1, 0, []⟩, ⟨106, 0, 0, []⟩]
theorem law_small : SCall Tryz.prog 19 [] [] (fun y σ => y = .agg (encMd smallM) ∧ σ = []) := by
  refine scall_of (n := 15) (ks := [0]) Tryz.func19 rfl rfl (Nat.le_of_ble_eq_true rfl) ?_
  refine sq3 ?_
  apply al; rfl; (exact zcT); refine freshT fun r0 h0 => ?_; repeat rcases h0 with ⟨_, h0⟩
  refine leT ?_
  refine sq3 ?_
  refine z1 ?_; refine freshT fun r1 h1 => ?_; repeat rcases h1 with ⟨_, h1⟩
  refine fzv (j := 1) rfl sdelT (bor_own sgT (by simp)) ?_
  refine z1 ?_; refine freshT fun r2 h2 => ?_; repeat rcases h2 with ⟨_, h2⟩
  refine fzv (j := 2) rfl sdelT (bor_own sgT (by simp)) ?_
  refine z93 ?_
  refine z1 ?_; refine freshT fun r4 h4 => ?_; repeat rcases h4 with ⟨_, h4⟩
  refine fzv (j := 4) rfl sdelT (bor_own sgT (by simp)) ?_
  refine z1 ?_; refine freshT fun r5 h5 => ?_; repeat rcases h5 with ⟨_, h5⟩
  refine fzv (j := 5) rfl sdelT (bor_own sgT (by simp)) ?_
  refine z93 ?_
  refine z1 ?_; refine freshT fun r7 h7 => ?_; repeat rcases h7 with ⟨_, h7⟩
  refine fzv (j := 7) rfl sdelT (bor_own sgT (by simp)) ?_
  refine z93 ?_
  refine z93 ?_
  refine z93 ?_
  refine z1 ?_; refine freshT fun r11 h11 => ?_; repeat rcases h11 with ⟨_, h11⟩
  refine fzv (j := 11) rfl sdelT (bor_own sgT (by simp)) ?_
  refine rs_go (sgo_vle (j := 11) rfl (vle_nl (l := smallIs) (by simp [smallIs]))) ?_
  refine z93 ?_
  refine rs_go (sgo_vle (j := 12) rfl vle_nco) ?_
  refine z1 ?_; refine freshT fun r13 h13 => ?_; repeat rcases h13 with ⟨_, h13⟩
  refine fzv (j := 13) rfl sdelT (bor_own sgT (by simp)) ?_
  refine z93 ?_
  apply stp; rfl; rfl; rfl; rfl; (exact sputT)
  refine leT ?_
  refine an ?_
  refine sw_go (sgo_leb (r := r0) (cs' := encMd smallM) ssetT (.cons (.refl _) (.cons (.le VLe.empty) (.cons (.refl _) (.cons (.refl _) (.cons (.refl _) (.cons (.refl _) (.cons (.refl _) (.cons (.refl _) (.cons (.refl _) (.cons (.le VLe.empty) (.cons (.refl _) (.cons (.le VLe.empty) (.cons (.refl _) (.cons (.le VLe.empty) .nil))))))))))))))) ?_
  refine ctlT ?_
  apply aend; exact resT
  · exact ⟨rfl, rfl⟩
  · exact stleT
/-
  What all statements of modules begin with.
-/
theorem small_len : (encB smallM).length ≤ 8000 ∧ 8 < (encB smallM).length := by rw [enc_small]; exact small_w
theorem law_begun7 : SCall Tryz.prog 10 [] [] (fun y σ => y = .bool true ∧ σ = []) := by
  have w1 := wasm_decode (encB smallM) (by have := small_len.1; omega) small_lt
  rw [dec_small] at w1
  have w2 := wasm_decode [120] (by decide) (by decide)
  rw [dec_x] at w2
  have w3 := wasm_may smallM small_wo
  rw [small_may] at w3
  have w4 := wasm_eq smallM smallM small_wo.w small_wo.w
  rw [eqM_self] at w4
  have w5 := wasm_eq smallM md0 small_wo.w wo0.w
  rw [small_ne] at w5
  have w6 := wasm_encode md0 wo0
  have w7 := wasm_may fun0 fun0_wo
  rw [fun0_may] at w7
  have h8 := small_len.2
  refine scall_of (n := 59) (ks := [0, 1, 2, 3, 4, 6]) Tryz.func10 rfl rfl (Nat.le_of_ble_eq_true rfl) ?_
  refine sq7 ?_
  refine rgT ?_
  refine cw [] Tryz.call19 law_small rfl argsleT stleT ?_
  rintro _ σ' ⟨rfl, rfl⟩ h7
  apply rs_sto; exact nflT
  apply al; rfl; (exact zcT); refine freshT fun r1 h1 => ?_; repeat rcases h1 with ⟨_, h1⟩
  apply stp; rfl; rfl; rfl; rfl; (exact sputT)
  refine leT ?_
  refine sq78 ?_
  refine clA Tryz.call13 (wasm_encode smallM small_wo) rfl bargsT noT ?_
  rintro _ σ' ⟨q9, rfl, rfl⟩ h9
  replace h9 := lnewT h9; repeat rcases h9 with ⟨_, h9⟩
  apply rs_sto; exact nflT
  refine fzv (j := 9) rfl sdelT (bor_own sgT (by simp)) ?_
  refine sq27 ?_
  refine cw [] Tryz.call17 w1 rfl argsleT stleT ?_
  rintro _ σ' ⟨rfl, rfl⟩ h12
  apply rs_sto; exact nflT
  refine sq24 ?_
  apply al; rfl; (exact zcT); refine freshT fun r3 h3 => ?_; repeat rcases h3 with ⟨_, h3⟩
  apply stp; rfl; rfl; rfl; rfl; (exact sputT)
  refine sq22 ?_
  refine z1 ?_; refine freshT fun r16 h16 => ?_; repeat rcases h16 with ⟨_, h16⟩
  refine cvm (len := 1) ssetT (by decide) ?_
  refine fzv (j := 17) rfl sdelT (bor_own sgT (by simp)) ?_
  refine cw [] Tryz.call17 w2 rfl argsleT stleT ?_
  rintro _ σ' ⟨rfl, rfl⟩ h18
  apply rs_sto; exact nflT
  refine sq24 ?_
  apply al; rfl; (exact zcT); refine freshT fun r5 h5 => ?_; repeat rcases h5 with ⟨_, h5⟩
  apply stp; rfl; rfl; rfl; rfl; (exact sputT)
  refine sq22 ?_
  refine z99 ?_
  refine puA Tryz.call14 w3 rfl pargsT nofT ?_
  refine sq9 ?_
  refine z124 ?_
  refine z125 ?_
  rw [show decide ((8 : Int) < ((encB smallM).length : Int)) = true from decide_eq_true (by omega)]
  refine sq79 ?_
  refine z112 ?_
  rw [show ((0 : Int) == 0) = true from rfl]
  refine z68 ?_
  refine sq83 ?_
  refine z139 ?_
  refine gy rfl rfl ?_
  refine puA Tryz.call15 w4 rfl pargsT nofT ?_
  refine z68 ?_
  refine sq83 ?_
  refine z178 ?_
  refine rs_go (sgo_vle (j := 39) rfl vle_md0) ?_
  refine gy rfl rfl ?_
  refine puA Tryz.call15 w5 rfl pargsT nofT ?_
  refine z130 ?_
  rw [show (!false) = true from rfl]
  refine sq79 ?_
  refine z112 ?_
  rw [show ((1 : Int) == 1) = true from rfl]
  refine z68 ?_
  refine lo (lop_move (E rfl)) rfl ?_
  refine z178 ?_
  refine rs_go (sgo_vle (j := 48) rfl vle_md0) ?_
  refine gy rfl rfl ?_
  refine clA Tryz.call13 w6 rfl bargsT noT ?_
  rintro _ σ' ⟨q49, rfl, rfl⟩ h49
  replace h49 := lnewT h49; repeat rcases h49 with ⟨_, h49⟩
  apply rs_sto; exact nflT
  refine z124 ?_
  refine z112 ?_
  rw [enc_md0, show (((8 : Nat) : Int) == 8) = true from rfl]
  refine z68 ?_
  refine lo (lop_move (E rfl)) rfl ?_
  refine z179 ?_; refine freshT fun r54 h54 => ?_; repeat rcases h54 with ⟨_, h54⟩
  refine fzv (j := 54) rfl sdelT (bor_own sgT (by simp)) ?_
  refine z178 ?_
  refine rs_go (sgo_vle (j := 55) rfl vle_fun0) ?_
  refine gy rfl rfl ?_
  refine puA Tryz.call14 w7 rfl pargsT nofT ?_
  refine sq66 ?_
  apply aend; exact resT
  · exact ⟨rfl, rfl⟩
  · exact stleT
end Go.Proofs.YtfihcehdoikfkaaGreat
/-
  How modules are read.
-/
namespace Go.Proofs.YtfihcehdoikfkaaGreat
open Go.RowKit Go.ChangeShapes Go.WideShapes Go.ChangeAt Go.Deep
def StrL (s : List Nat) : Prop := s.length ≤ maxLen ∧ ∀ c ∈ s, c < 256
abbrev IntsL (l : List Int) : Prop := l.length ≤ maxLen ∧ ∀ a ∈ l, I64 a
abbrev InssL (l : List Ins) : Prop := l.length ≤ maxLen ∧ ∀ x ∈ l, x.Wf
def FT.R (x : FT) : Prop := IntsL x.pr ∧ IntsL x.rs
def Im.R (x : Im) : Prop := StrL x.mod ∧ StrL x.nm ∧ I64 x.ty
def Gl.R (x : Gl) : Prop := I64 x.kd ∧ I64 x.n
def Ex.R (x : Ex) : Prop := StrL x.nm ∧ I64 x.fn
def El.R (x : El) : Prop := I64 x.off ∧ IntsL x.fs
def Co.R (x : Co) : Prop := IntsL x.ls ∧ InssL x.bd
def Da.R (x : Da) : Prop := I64 x.off ∧ StrL x.bs
def Li.R (x : Li) : Prop := I64 x.mn ∧ I64 x.mx
abbrev FTsL (l : List FT) : Prop := l.length ≤ maxLen ∧ ∀ x ∈ l, x.R
abbrev ImsL (l : List Im) : Prop := l.length ≤ maxLen ∧ ∀ x ∈ l, x.R
abbrev GlsL (l : List Gl) : Prop := l.length ≤ maxLen ∧ ∀ x ∈ l, x.R
abbrev ExsL (l : List Ex) : Prop := l.length ≤ maxLen ∧ ∀ x ∈ l, x.R
abbrev ElsL (l : List El) : Prop := l.length ≤ maxLen ∧ ∀ x ∈ l, x.R
abbrev CosL (l : List Co) : Prop := l.length ≤ maxLen ∧ ∀ x ∈ l, x.R
abbrev DasL (l : List Da) : Prop := l.length ≤ maxLen ∧ ∀ x ∈ l, x.R
def Md.R (m : Md) : Prop := FTsL m.ty ∧ ImsL m.im ∧ IntsL m.fn ∧ m.tb.R ∧ m.me.R ∧ GlsL m.gl ∧ ExsL m.ex ∧ ElsL m.el ∧ CosL m.co ∧ DasL m.da
theorem Md.R.a {m : Md} (h : m.R) : m.A := by
  obtain ⟨h1, h2, h3, -, -, h4, h5, h6, h7, h8⟩ := h
  exact ⟨⟨h1.1, fun x hx => ⟨(h1.2 x hx).1.1, (h1.2 x hx).2.1⟩⟩, ⟨h2.1, fun x hx => ⟨(h2.2 x hx).1.1, (h2.2 x hx).2.1.1⟩⟩, h3.1, h4.1, ⟨h5.1, fun x hx => (h5.2 x hx).1.1⟩, ⟨h6.1, fun x hx => (h6.2 x hx).2.1⟩,
    ⟨h7.1, fun x hx => ⟨(h7.2 x hx).1.1, (h7.2 x hx).2.1, fun i hi => ((h7.2 x hx).2.2 i hi).2.2.2.1⟩⟩, ⟨h8.1, fun x hx => (h8.2 x hx).2.1⟩⟩
end Go.Proofs.YtfihcehdoikfkaaGreat
/-
  Names of one to sixteen bytes, from a blank to a tilde.
-/
namespace Go.Proofs.YtfihcehdoikfkaaGreat
open Go.RowKit Go.ChangeShapes Go.WideShapes Go.ChangeAt Go.Deep
attribute [local irreducible] SW RS RD AThen ABlock
/-- a module that may be just if g -/
structure NameF (M : Md) (g : Bool) : Prop where
  wo : M.WO
  z : M.Z
  ma : mayA M = g
  le : g = true → (writB M).length ≤ 8000
theorem NameF.may {M : Md} {g : Bool} (h : NameF M g) : mayM M = g := by
  rw [mayM_eq, h.ma]
  cases g
  · rfl
  · rw [Bool.true_and]; exact decide_eq_true (h.le rfl)
theorem NameF.enc {M : Md} (h : NameF M true) : encB M = writB M := if_pos h.may
theorem NameF.enc0 {M : Md} (h : NameF M false) : encB M = [] := by unfold encB; rw [h.may]; rfl
theorem dec_nil : decM [] = (md0, 1) := by
  unfold decM
  rw [if_neg (by decide)]
  split
  · rfl
  · rw [if_neg (fun h => writ_ne _ h.2)]
theorem md0_w : md0.W := ⟨by simp [md0], by simp [md0], by simp [md0], by simp [md0], by simp [md0]⟩
theorem md0_z : md0.Z := by constructor <;> simp [md0]
theorem name_im (s t : List Nat) (hs : StrOk s) (ht : StrOk t) : NameF { md0 with im := [⟨s, t, 0⟩] } (nmN s && nmN t) := by
  refine ⟨⟨⟨by simp [md0, hs, ht], by simp [md0], by simp [md0], by simp [md0], by simp [md0]⟩, by simp [md0], by simp [md0]⟩, by constructor <;> simp [md0], ?_, fun h => ?_⟩
  · have h0 : smN_ 0 = true := by decide
    simp [mayA, listsN, allN, limN, li0, md0, h0]
  · have h1 := sec_len puts_im (by decide) (l := [⟨s, t, 0⟩]) (fun x hx => by simp at hx; subst hx; simp only [Bool.and_eq_true] at h; simp [h.1, h.2, show smN_ 0 = true by decide]) (by simp) (by decide) 2
    have h2 : writB { md0 with im := [⟨s, t, 0⟩] } = headB ++ secB 2 [⟨s, t, 0⟩] imB := by simp [writB, md0, secB, oneL, li0]
    rw [h2, List.length_append, show headB.length = 8 from rfl]
    omega
theorem name_ex (s : List Nat) (hs : StrOk s) : NameF { md0 with ex := [⟨s, 0⟩] } (nmN s) := by
  refine ⟨⟨⟨by simp [md0], by simp [md0, hs], by simp [md0], by simp [md0], by simp [md0]⟩, by simp [md0], by simp [md0]⟩, by constructor <;> simp [md0], ?_, fun h => ?_⟩
  · have h0 : smN_ 0 = true := by decide
    simp [mayA, listsN, allN, limN, li0, md0, h0]
  · have h1 := sec_len puts_ex (by decide) (l := [⟨s, 0⟩]) (fun x hx => by simp at hx; subst hx; simp [h, show smN_ 0 = true by decide]) (by simp) (by decide) 7
    have h2 : writB { md0 with ex := [⟨s, 0⟩] } = headB ++ secB 7 [⟨s, 0⟩] exB := by simp [writB, md0, secB, oneL, li0]
    rw [h2, List.length_append, show headB.length = 8 from rfl]
    omega
def fillL (n c j : Nat) : List Nat := List.replicate j c ++ List.replicate (n - j) 0
theorem fill_len {n c j : Nat} (h : j ≤ n) : (fillL n c j).length = n := by simp [fillL]; omega
theorem fill_set {n c j : Nat} (h : j < n) : ((fillL n c j).map encU).set (j : Int).toNat [.int .u8 (c : Int)] = (fillL n c (j + 1)).map encU := by
  have h1 : (fillL n c j).set j c = fillL n c (j + 1) := by
    unfold fillL
    rw [List.set_append, if_neg (by simp), List.length_replicate, Nat.sub_self, show n - j = (n - (j + 1)) + 1 by omega, List.replicate_succ, List.set_cons_zero, List.replicate_succ' (n := j), List.append_assoc]
    rfl
  rw [Int.toNat_natCast, ← h1, List.map_set]
  rfl
theorem fill_get {n c j : Nat} (h : j < n) : ((fillL n c j).map encU)[(j : Int).toNat]? = some (encU 0) := by
  rw [Int.toNat_natCast, List.getElem?_map]
  unfold fillL
  rw [List.getElem?_append_right (by simp), List.length_replicate, Nat.sub_self, List.getElem?_replicate, if_pos (by omega)]
  rfl
theorem fill_end (n c : Nat) : fillL n c n = List.replicate n c := by simp [fillL]
theorem fill_zero (n c : Nat) : List.replicate n [AV.int .u8 0] = (fillL n c 0).map encU := by simp [fillL, encU]
theorem nm_rep (n c : Nat) : nmN (List.replicate n c) = (decide (1 ≤ n) && decide (n ≤ 16) && decide (32 ≤ c) && decide (c ≤ 126)) := by
  cases n with
  | zero => rfl
  | succ n =>
    have h : ((List.replicate (n + 1) c).length != 0) = true := by simp
    unfold nmN
    rw [if_pos h, List.all_replicate]
    simp [Bool.and_assoc]
theorem name_g (n c : Nat) : (if (if (if decide (1 ≤ (n : Int)) = true then decide ((n : Int) ≤ 16) else false) = true then decide (32 ≤ (c : Int)) else false) = true then decide ((c : Int) ≤ 126) else false) = nmN (List.replicate n c) := by
  rw [nm_rep, ite_and, ite_and, ite_and, show decide (1 ≤ (n : Int)) = decide (1 ≤ n) from decide_eq_decide.2 (by omega), show decide ((n : Int) ≤ 16) = decide (n ≤ 16) from decide_eq_decide.2 (by omega), show decide (32 ≤ (c : Int)) = decide (32 ≤ c) from decide_eq_decide.2 (by omega), show decide ((c : Int) ≤ 126) = decide (c ≤ 126) from decide_eq_decide.2 (by omega)]
theorem law_wasmNames2 (a c w : Int) (hc : 0 ≤ c ∧ c ≤ 255) : SCall Tryz.prog 6 [.int .i64 a, .int .u8 c, .int .i64 w] [] (fun y σ => y = .bool true ∧ σ = []) := by
  refine scall_of (n := 105) (ks := [0, 1, 2, 6, 7, 8, 9, 10, 11, 12, 13, 16, 22, 26, 27, 28, 39, 45, 52]) Tryz.func6 rfl rfl (Nat.le_of_ble_eq_true rfl) ?_
  refine ctlT ?_
  obtain ⟨c, rfl⟩ : ∃ k : Nat, c = k := ⟨c.toNat, by omega⟩
  refine rgT ?_
  refine sq22 ?_
  refine puA Tryz.call10 law_begun7 rfl pargsT nofT ?_
  refine sq27 ?_
  refine lo (lop_not (E rfl)) rfl ?_
  refine sq38 ?_
  refine lo (lop_lss (E rfl) (E rfl)) rfl ?_
  refine sq9 ?_
  refine z125 ?_
  refine sq105 ?_
  refine sw_cond rfl (fun g4 => ?_) (fun g4 => ?_)
  · refine sq7 ?_
    apply aend; exact resT
    · exact ⟨rfl, rfl⟩
    · exact stleT
  obtain ⟨n, rfl, hn⟩ : ∃ n : Nat, a = n ∧ n ≤ 20 := by
    have : ∀ p q : Bool, (if p = true then true else q) = false → p = false ∧ q = false := by intro p q; cases p <;> cases q <;> simp
    obtain ⟨h1, h2⟩ := this _ _ g4
    simp only [decide_eq_false_iff_not] at h1 h2
    exact ⟨a.toNat, by omega, by omega⟩
  refine sq4 ?_
  refine mk (l := n) (z := [.int .u8 0]) rfl rfl rfl rfl (by omega) (by simp [maxLen]; omega) rfl rfl ?_
  refine freshT fun r24 h24 => ?_; repeat rcases h24 with ⟨_, h24⟩
  rw [fill_zero n c]
  refine sq113 ?_
  refine lp (β := Nat) (fun j => ⟨[(0, .int .i64 n), (1, .int .u8 c), (2, .int .i64 w), (8, .own r24 0 n), (26, .int .i64 n), (27, .int .i64 j)], [(r24, .arr 5 1 ((fillL n c j).map encU))]⟩) (fun j => j ≤ n) (fun j => n - j) 0 sgoT (Nat.zero_le _) ?_
  rintro j hj
  try dsimp only at hj ⊢
  have hfl := fill_len (c := c) hj
  refine sq42 ?_
  refine sw_cond rfl (fun g8 => ?_) (fun g8 => ?_)
  · have hlt : j < n := by simpa using g8
    have hge := fill_get (c := c) hlt
    refine sq94 ?_
    refine z118 ?_
    refine sq6 ?_
    rw [fill_set hlt]
    refine rgT ?_
    refine sq35 ?_
    refine ⟨j + 1, hlt, by show n - (j + 1) < n - j; omega, ?_⟩
    try dsimp only
    exact sgoT
  obtain rfl : j = n := by simp at g8; omega
  rw [fill_end]
  have hst : StrOk (List.replicate j c) := ⟨by simp; omega, fun x hx => by rw [List.eq_of_mem_replicate hx]; omega⟩
  refine sq3 ?_
  refine z93 ?_
  apply al; rfl; (exact zcT); refine freshT fun r10 h10 => ?_; repeat rcases h10 with ⟨_, h10⟩
  apply stp; rfl; rfl; rfl; rfl; (exact sputT)
  refine sq38 ?_
  refine z22 ?_
  refine z17 ?_
  refine z22 ?_
  refine leT ?_
  refine sq33 ?_
  refine sw_cond rfl (fun g15 => ?_) (fun g15 => ?_)
  · refine sq4 ?_
    refine z145 ?_
    refine z93 ?_
    refine z1 ?_; refine freshT fun r50 h50 => ?_; repeat rcases h50 with ⟨_, h50⟩
    refine z59 ?_
    apply stp; rfl; rfl; rfl; rfl; (exact sputT)
    refine sq6 ?_
    have hF := name_im (List.replicate j c) [110] hst (by constructor <;> decide)
    rw [show nmN [110] = true by decide, Bool.and_true] at hF
    refine sw_go (sgo_fzb (r := r10) (q := r50) ssetT sdelT (.cons (.refl _) (.cons (bor_own sgT (by simp)) (.cons (.refl _) (.cons (.refl _) (.cons (.refl _) (.cons (.refl _) (.cons (.refl _) (.cons (.refl _) (.cons (.refl _) (.cons (.refl _) (.cons (.refl _) (.cons (.refl _) (.cons (.refl _) (.cons (.refl _) .nil))))))))))))))) ?_
    refine sw_go (sgo_leb (r := r10) (cs' := encMd { md0 with im := [⟨List.replicate j c, [110], 0⟩] }) ssetT (.cons (.le VLe.empty) (.cons (.refl _) (.cons (.le VLe.empty) (.cons (.refl _) (.cons (.refl _) (.cons (.refl _) (.cons (.refl _) (.cons (.refl _) (.cons (.refl _) (.cons (.le VLe.empty) (.cons (.le VLe.empty) (.cons (.le VLe.empty) (.cons (.le VLe.empty) (.cons (.le VLe.empty) .nil))))))))))))))) ?_
    generalize ({ md0 with im := [⟨List.replicate j c, [110], 0⟩] } : Md) = M at hF ⊢
    refine sq1 ?_
    refine sq97 ?_
    refine z131 ?_
    refine sq79 ?_
    refine z123 ?_
    refine sq79 ?_
    refine z131 ?_
    refine sq28 ?_
    rw [name_g]
    cases hG : nmN (List.replicate j c)
    · rw [hG] at hF
      have wen := wasm_encode M hF.wo
      have wma := wasm_may M hF.wo
      rw [hF.may] at wma
      rw [hF.enc0] at wen
      have wd := wasm_decode [] (by simp) (by simp)
      rw [dec_nil] at wd
      have wem := ref_eq md0 M md0_w hF.wo.w md0_z hF.z
      refine rgT ?_
      refine z99 ?_
      refine clA Tryz.call13 wen rfl bargsT noT ?_
      rintro _ σ' ⟨q75, rfl, rfl⟩ h75
      replace h75 := lnewT h75; repeat rcases h75 with ⟨_, h75⟩
      apply rs_sto; exact nflT
      refine fzv (j := 75) rfl sdelT (bor_own sgT (by simp)) ?_
      refine cw [] Tryz.call17 wd rfl argsleT stleT ?_
      rintro _ σ' ⟨rfl, rfl⟩ h76
      apply rs_sto; exact nflT
      refine sq24 ?_
      apply al; rfl; (exact zcT); refine freshT fun r12 h12 => ?_; repeat rcases h12 with ⟨_, h12⟩
      apply stp; rfl; rfl; rfl; rfl; (exact sputT)
      refine sq22 ?_
      refine z99 ?_
      refine puA Tryz.call14 wma rfl pargsT nofT ?_
      refine sq70 ?_
      refine sq9 ?_
      refine z130 ?_
      refine z133 ?_
      first | refine ln rfl rfl rfl rfl ?_ | (refine gy rfl rfl ?_; refine lo (lop_move (E rfl)) rfl ?_) | refine lg rfl rfl (lop_move (E rfl)) rfl ?_ | refine lw rfl rfl (lop_move (E rfl)) rfl ?_ | refine lw rfl rfl (lop_no (v := .bool false)) rfl ?_
      refine z146 ?_
      first | refine ln rfl rfl rfl rfl ?_ | (refine gy rfl rfl ?_; refine lo (lop_move (by first | exact W rfl id | exact E rfl)) rfl ?_) | refine lg rfl rfl (lop_move (by first | exact W rfl (by first | exact id | simp) | exact E rfl)) rfl ?_ | refine lw rfl rfl (lop_move (by first | exact W rfl (by first | exact id | simp) | exact E rfl)) rfl ?_ | refine lw rfl rfl (lop_no (v := .bool false)) rfl ?_
      first | refine ln rfl rfl rfl rfl ?_ | (refine gy rfl rfl ?_; (first | refine lo (lop_load_ptr_agg (E rfl) rfl sgT (fun _ => Nat.le_of_ble_eq_true rfl)) rfl ?_ | refine lo (lop_load_el_agg (E rfl) rfl (fun hc => by first | rfl | exact get_map (by assumption) | assumption | exact get_map (at_bang (by omega))) (fun _ => Nat.le_of_ble_eq_true rfl)) rfl ?_)) | refine lg rfl rfl (lop_load_ptr_agg (E rfl) rfl sgT (fun _ => Nat.le_of_ble_eq_true rfl)) rfl ?_ | refine lg rfl rfl (lop_load_el_agg (E rfl) rfl (fun hc => by first | rfl | exact get_map (by assumption) | assumption | exact get_map (at_bang (by (try simp at hc) <;> omega))) (fun _ => Nat.le_of_ble_eq_true rfl)) rfl ?_ | refine lw rfl rfl (lop_load_ptr_agg (E rfl) rfl sgT (fun _ => Nat.le_of_ble_eq_true rfl)) rfl ?_ | refine lw rfl rfl (lop_load_el_agg (E rfl) rfl (fun hc => by first | rfl | exact get_map (by assumption) | assumption | exact get_map (at_bang (by (try simp at hc) <;> omega))) (fun _ => Nat.le_of_ble_eq_true rfl)) rfl ?_ | refine lw rfl rfl (lop_no (v := .bool false)) rfl ?_
      first | refine ln rfl rfl rfl rfl ?_ | (refine gy rfl rfl ?_; (first | refine lo (lop_load_ptr_agg (E rfl) rfl sgT (fun _ => Nat.le_of_ble_eq_true rfl)) rfl ?_ | refine lo (lop_load_el_agg (E rfl) rfl (fun hc => by first | rfl | exact get_map (by assumption) | assumption | exact get_map (at_bang (by omega))) (fun _ => Nat.le_of_ble_eq_true rfl)) rfl ?_)) | refine lg rfl rfl (lop_load_ptr_agg (E rfl) rfl sgT (fun _ => Nat.le_of_ble_eq_true rfl)) rfl ?_ | refine lg rfl rfl (lop_load_el_agg (E rfl) rfl (fun hc => by first | rfl | exact get_map (by assumption) | assumption | exact get_map (at_bang (by (try simp at hc) <;> omega))) (fun _ => Nat.le_of_ble_eq_true rfl)) rfl ?_ | refine lw rfl rfl (lop_load_ptr_agg (E rfl) rfl sgT (fun _ => Nat.le_of_ble_eq_true rfl)) rfl ?_ | refine lw rfl rfl (lop_load_el_agg (E rfl) rfl (fun hc => by first | rfl | exact get_map (by assumption) | assumption | exact get_map (at_bang (by (try simp at hc) <;> omega))) (fun _ => Nat.le_of_ble_eq_true rfl)) rfl ?_ | refine lw rfl rfl (lop_no (v := .bool false)) rfl ?_
      refine puwA rfl rfl Tryz.call16 (fun _ => wem) rfl pargsT nofT ?_
      first | refine ln rfl rfl rfl rfl ?_ | (refine gy rfl rfl ?_; (first | refine lo (lop_pick_t (by first | exact W rfl id | exact E rfl) (by first | exact W rfl (by simp) | exact E rfl)) rfl ?_ | refine lo (lop_pick_f (by first | exact W rfl id | exact E rfl) (E rfl)) rfl ?_ | refine lo (lop_pick (by first | exact W rfl id | exact E rfl) (by first | exact W rfl (by simp) | exact E rfl) (E rfl)) rfl ?_)) | refine lg rfl rfl (lop_pick_t (by first | exact W rfl (by first | exact id | simp) | exact E rfl) (by first | exact W rfl (by simp) | exact E rfl)) rfl ?_ | refine lg rfl rfl (lop_pick_f (by first | exact W rfl (by first | exact id | simp) | exact E rfl) (E rfl)) rfl ?_ | refine lg rfl rfl (lop_pick (by first | exact W rfl (by first | exact id | simp) | exact E rfl) (by first | exact W rfl (by simp) | exact E rfl) (E rfl)) rfl ?_ | refine lw rfl rfl (lop_pick_t (by first | exact W rfl (by first | exact id | simp) | exact E rfl) (by first | exact W rfl (by simp) | exact E rfl)) rfl ?_ | refine lw rfl rfl (lop_pick_f (by first | exact W rfl (by first | exact id | simp) | exact E rfl) (E rfl)) rfl ?_ | refine lw rfl rfl (lop_pick (by first | exact W rfl (by first | exact id | simp) | exact E rfl) (by first | exact W rfl (by simp) | exact E rfl) (E rfl)) rfl ?_ | refine lw rfl rfl (lop_no (v := .bool false)) rfl ?_
      refine z147 ?_
      refine sq79 ?_
      refine z133 ?_
      first | refine ln rfl rfl rfl rfl ?_ | (refine gy rfl rfl ?_; (first | refine lo (lop_load_ptr_agg (E rfl) rfl sgT (fun _ => Nat.le_of_ble_eq_true rfl)) rfl ?_ | refine lo (lop_load_el_agg (E rfl) rfl (fun hc => by first | rfl | exact get_map (by assumption) | assumption | exact get_map (at_bang (by omega))) (fun _ => Nat.le_of_ble_eq_true rfl)) rfl ?_)) | refine lg rfl rfl (lop_load_ptr_agg (E rfl) rfl sgT (fun _ => Nat.le_of_ble_eq_true rfl)) rfl ?_ | refine lg rfl rfl (lop_load_el_agg (E rfl) rfl (fun hc => by first | rfl | exact get_map (by assumption) | assumption | exact get_map (at_bang (by (try simp at hc) <;> omega))) (fun _ => Nat.le_of_ble_eq_true rfl)) rfl ?_ | refine lw rfl rfl (lop_load_ptr_agg (E rfl) rfl sgT (fun _ => Nat.le_of_ble_eq_true rfl)) rfl ?_ | refine lw rfl rfl (lop_load_el_agg (E rfl) rfl (fun hc => by first | rfl | exact get_map (by assumption) | assumption | exact get_map (at_bang (by (try simp at hc) <;> omega))) (fun _ => Nat.le_of_ble_eq_true rfl)) rfl ?_ | refine lw rfl rfl (lop_no (v := .bool false)) rfl ?_
      refine gy rfl rfl ?_
      refine clA Tryz.call13 wen rfl bargsT noT ?_
      rintro _ σ' ⟨q100, rfl, rfl⟩ h100
      replace h100 := lnewT h100; repeat rcases h100 with ⟨_, h100⟩
      apply rs_sto; exact nflT
      first | refine ln rfl rfl rfl rfl ?_ | (refine gy rfl rfl ?_; (first | refine lo (lop_len_map (by first | exact W rfl id | exact E rfl)) rfl ?_ | refine lo (lop_len_ro (by first | exact W rfl id | exact E rfl)) rfl ?_ | refine lo (lop_len_own (by first | exact W rfl id | exact E rfl)) rfl ?_)) | refine lg rfl rfl (lop_len_map (by first | exact W rfl (by first | exact id | simp) | exact E rfl)) rfl ?_ | refine lg rfl rfl (lop_len_ro (by first | exact W rfl (by first | exact id | simp) | exact E rfl)) rfl ?_ | refine lg rfl rfl (lop_len_own (by first | exact W rfl (by first | exact id | simp) | exact E rfl)) rfl ?_ | refine lw rfl rfl (lop_len_map (by first | exact W rfl (by first | exact id | simp) | exact E rfl)) rfl ?_ | refine lw rfl rfl (lop_len_ro (by first | exact W rfl (by first | exact id | simp) | exact E rfl)) rfl ?_ | refine lw rfl rfl (lop_len_own (by first | exact W rfl (by first | exact id | simp) | exact E rfl)) rfl ?_ | refine lw rfl rfl (lop_no (v := .bool false)) rfl ?_
      refine z146 ?_
      refine z147 ?_
      refine sq28 ?_
      apply aend; exact resT
      · exact ⟨rfl, rfl⟩
      · exact stleT
    · rw [hG] at hF
      have wen := wasm_encode M hF.wo
      have wma := wasm_may M hF.wo
      rw [hF.may] at wma
      rw [hF.enc] at wen
      have wd := wasm_decode (writB M) (by have := hF.le rfl; omega) (by rw [← hF.enc]; exact encB_lt hF.wo)
      rw [dec_back hF.may hF.wo.ok] at wd
      have weq := ref_eq M M hF.wo.w hF.wo.w hF.z hF.z
      rw [eqM_self] at weq
      refine rgT ?_
      refine z99 ?_
      refine clA Tryz.call13 wen rfl bargsT noT ?_
      rintro _ σ' ⟨q75, rfl, rfl⟩ h75
      replace h75 := lnewT h75; repeat rcases h75 with ⟨_, h75⟩
      apply rs_sto; exact nflT
      refine fzv (j := 75) rfl sdelT (bor_own sgT (by simp)) ?_
      refine cw [] Tryz.call17 wd rfl argsleT stleT ?_
      rintro _ σ' ⟨rfl, rfl⟩ h76
      apply rs_sto; exact nflT
      refine sq24 ?_
      apply al; rfl; (exact zcT); refine freshT fun r12 h12 => ?_; repeat rcases h12 with ⟨_, h12⟩
      apply stp; rfl; rfl; rfl; rfl; (exact sputT)
      refine sq22 ?_
      refine z99 ?_
      refine puA Tryz.call14 wma rfl pargsT nofT ?_
      refine sq70 ?_
      refine sq9 ?_
      refine z130 ?_
      refine z133 ?_
      first | refine ln rfl rfl rfl rfl ?_ | (refine gy rfl rfl ?_; refine lo (lop_move (E rfl)) rfl ?_) | refine lg rfl rfl (lop_move (E rfl)) rfl ?_ | refine lw rfl rfl (lop_move (E rfl)) rfl ?_ | refine lw rfl rfl (lop_no (v := .bool false)) rfl ?_
      refine z146 ?_
      first | refine ln rfl rfl rfl rfl ?_ | (refine gy rfl rfl ?_; refine lo (lop_move (by first | exact W rfl id | exact E rfl)) rfl ?_) | refine lg rfl rfl (lop_move (by first | exact W rfl (by first | exact id | simp) | exact E rfl)) rfl ?_ | refine lw rfl rfl (lop_move (by first | exact W rfl (by first | exact id | simp) | exact E rfl)) rfl ?_ | refine lw rfl rfl (lop_no (v := .bool false)) rfl ?_
      first | refine ln rfl rfl rfl rfl ?_ | (refine gy rfl rfl ?_; (first | refine lo (lop_load_ptr_agg (E rfl) rfl sgT (fun _ => Nat.le_of_ble_eq_true rfl)) rfl ?_ | refine lo (lop_load_el_agg (E rfl) rfl (fun hc => by first | rfl | exact get_map (by assumption) | assumption | exact get_map (at_bang (by omega))) (fun _ => Nat.le_of_ble_eq_true rfl)) rfl ?_)) | refine lg rfl rfl (lop_load_ptr_agg (E rfl) rfl sgT (fun _ => Nat.le_of_ble_eq_true rfl)) rfl ?_ | refine lg rfl rfl (lop_load_el_agg (E rfl) rfl (fun hc => by first | rfl | exact get_map (by assumption) | assumption | exact get_map (at_bang (by (try simp at hc) <;> omega))) (fun _ => Nat.le_of_ble_eq_true rfl)) rfl ?_ | refine lw rfl rfl (lop_load_ptr_agg (E rfl) rfl sgT (fun _ => Nat.le_of_ble_eq_true rfl)) rfl ?_ | refine lw rfl rfl (lop_load_el_agg (E rfl) rfl (fun hc => by first | rfl | exact get_map (by assumption) | assumption | exact get_map (at_bang (by (try simp at hc) <;> omega))) (fun _ => Nat.le_of_ble_eq_true rfl)) rfl ?_ | refine lw rfl rfl (lop_no (v := .bool false)) rfl ?_
      first | refine ln rfl rfl rfl rfl ?_ | (refine gy rfl rfl ?_; (first | refine lo (lop_load_ptr_agg (E rfl) rfl sgT (fun _ => Nat.le_of_ble_eq_true rfl)) rfl ?_ | refine lo (lop_load_el_agg (E rfl) rfl (fun hc => by first | rfl | exact get_map (by assumption) | assumption | exact get_map (at_bang (by omega))) (fun _ => Nat.le_of_ble_eq_true rfl)) rfl ?_)) | refine lg rfl rfl (lop_load_ptr_agg (E rfl) rfl sgT (fun _ => Nat.le_of_ble_eq_true rfl)) rfl ?_ | refine lg rfl rfl (lop_load_el_agg (E rfl) rfl (fun hc => by first | rfl | exact get_map (by assumption) | assumption | exact get_map (at_bang (by (try simp at hc) <;> omega))) (fun _ => Nat.le_of_ble_eq_true rfl)) rfl ?_ | refine lw rfl rfl (lop_load_ptr_agg (E rfl) rfl sgT (fun _ => Nat.le_of_ble_eq_true rfl)) rfl ?_ | refine lw rfl rfl (lop_load_el_agg (E rfl) rfl (fun hc => by first | rfl | exact get_map (by assumption) | assumption | exact get_map (at_bang (by (try simp at hc) <;> omega))) (fun _ => Nat.le_of_ble_eq_true rfl)) rfl ?_ | refine lw rfl rfl (lop_no (v := .bool false)) rfl ?_
      refine pugA rfl rfl Tryz.call16 (fun _ => weq) rfl pargsT nofT ?_
      first | refine ln rfl rfl rfl rfl ?_ | (refine gy rfl rfl ?_; (first | refine lo (lop_pick_t (by first | exact W rfl id | exact E rfl) (by first | exact W rfl (by simp) | exact E rfl)) rfl ?_ | refine lo (lop_pick_f (by first | exact W rfl id | exact E rfl) (E rfl)) rfl ?_ | refine lo (lop_pick (by first | exact W rfl id | exact E rfl) (by first | exact W rfl (by simp) | exact E rfl) (E rfl)) rfl ?_)) | refine lg rfl rfl (lop_pick_t (by first | exact W rfl (by first | exact id | simp) | exact E rfl) (by first | exact W rfl (by simp) | exact E rfl)) rfl ?_ | refine lg rfl rfl (lop_pick_f (by first | exact W rfl (by first | exact id | simp) | exact E rfl) (E rfl)) rfl ?_ | refine lg rfl rfl (lop_pick (by first | exact W rfl (by first | exact id | simp) | exact E rfl) (by first | exact W rfl (by simp) | exact E rfl) (E rfl)) rfl ?_ | refine lw rfl rfl (lop_pick_t (by first | exact W rfl (by first | exact id | simp) | exact E rfl) (by first | exact W rfl (by simp) | exact E rfl)) rfl ?_ | refine lw rfl rfl (lop_pick_f (by first | exact W rfl (by first | exact id | simp) | exact E rfl) (E rfl)) rfl ?_ | refine lw rfl rfl (lop_pick (by first | exact W rfl (by first | exact id | simp) | exact E rfl) (by first | exact W rfl (by simp) | exact E rfl) (E rfl)) rfl ?_ | refine lw rfl rfl (lop_no (v := .bool false)) rfl ?_
      refine z147 ?_
      refine sq79 ?_
      refine z133 ?_
      first | refine ln rfl rfl rfl rfl ?_ | (refine gy rfl rfl ?_; (first | refine lo (lop_load_ptr_agg (E rfl) rfl sgT (fun _ => Nat.le_of_ble_eq_true rfl)) rfl ?_ | refine lo (lop_load_el_agg (E rfl) rfl (fun hc => by first | rfl | exact get_map (by assumption) | assumption | exact get_map (at_bang (by omega))) (fun _ => Nat.le_of_ble_eq_true rfl)) rfl ?_)) | refine lg rfl rfl (lop_load_ptr_agg (E rfl) rfl sgT (fun _ => Nat.le_of_ble_eq_true rfl)) rfl ?_ | refine lg rfl rfl (lop_load_el_agg (E rfl) rfl (fun hc => by first | rfl | exact get_map (by assumption) | assumption | exact get_map (at_bang (by (try simp at hc) <;> omega))) (fun _ => Nat.le_of_ble_eq_true rfl)) rfl ?_ | refine lw rfl rfl (lop_load_ptr_agg (E rfl) rfl sgT (fun _ => Nat.le_of_ble_eq_true rfl)) rfl ?_ | refine lw rfl rfl (lop_load_el_agg (E rfl) rfl (fun hc => by first | rfl | exact get_map (by assumption) | assumption | exact get_map (at_bang (by (try simp at hc) <;> omega))) (fun _ => Nat.le_of_ble_eq_true rfl)) rfl ?_ | refine lw rfl rfl (lop_no (v := .bool false)) rfl ?_
      refine ln rfl rfl rfl rfl ?_
      first | refine ln rfl rfl rfl rfl ?_ | (refine gy rfl rfl ?_; (first | refine lo (lop_len_map (by first | exact W rfl id | exact E rfl)) rfl ?_ | refine lo (lop_len_ro (by first | exact W rfl id | exact E rfl)) rfl ?_ | refine lo (lop_len_own (by first | exact W rfl id | exact E rfl)) rfl ?_)) | refine lg rfl rfl (lop_len_map (by first | exact W rfl (by first | exact id | simp) | exact E rfl)) rfl ?_ | refine lg rfl rfl (lop_len_ro (by first | exact W rfl (by first | exact id | simp) | exact E rfl)) rfl ?_ | refine lg rfl rfl (lop_len_own (by first | exact W rfl (by first | exact id | simp) | exact E rfl)) rfl ?_ | refine lw rfl rfl (lop_len_map (by first | exact W rfl (by first | exact id | simp) | exact E rfl)) rfl ?_ | refine lw rfl rfl (lop_len_ro (by first | exact W rfl (by first | exact id | simp) | exact E rfl)) rfl ?_ | refine lw rfl rfl (lop_len_own (by first | exact W rfl (by first | exact id | simp) | exact E rfl)) rfl ?_ | refine lw rfl rfl (lop_no (v := .bool false)) rfl ?_
      refine z146 ?_
      refine z147 ?_
      refine sq28 ?_
      apply aend; exact resT
      · exact ⟨rfl, rfl⟩
      · exact stleT
  refine sq33 ?_
  refine sw_cond rfl (fun g17 => ?_) (fun g17 => ?_)
  · refine sq4 ?_
    refine z145 ?_
    refine z93 ?_
    refine z1 ?_; refine freshT fun r57 h57 => ?_; repeat rcases h57 with ⟨_, h57⟩
    refine z59 ?_
    apply stp; rfl; rfl; rfl; rfl; (exact sputT)
    refine sq6 ?_
    have hF := name_im [109] (List.replicate j c) (by constructor <;> decide) hst
    rw [show nmN [109] = true by decide, Bool.true_and] at hF
    refine sw_go (sgo_fzb (r := r10) (q := r57) ssetT sdelT (.cons (.refl _) (.cons (bor_own sgT (by simp)) (.cons (.refl _) (.cons (.refl _) (.cons (.refl _) (.cons (.refl _) (.cons (.refl _) (.cons (.refl _) (.cons (.refl _) (.cons (.refl _) (.cons (.refl _) (.cons (.refl _) (.cons (.refl _) (.cons (.refl _) .nil))))))))))))))) ?_
    refine sw_go (sgo_leb (r := r10) (cs' := encMd { md0 with im := [⟨[109], List.replicate j c, 0⟩] }) ssetT (.cons (.le VLe.empty) (.cons (.refl _) (.cons (.le VLe.empty) (.cons (.refl _) (.cons (.refl _) (.cons (.refl _) (.cons (.refl _) (.cons (.refl _) (.cons (.refl _) (.cons (.le VLe.empty) (.cons (.le VLe.empty) (.cons (.le VLe.empty) (.cons (.le VLe.empty) (.cons (.le VLe.empty) .nil))))))))))))))) ?_
    generalize ({ md0 with im := [⟨[109], List.replicate j c, 0⟩] } : Md) = M at hF ⊢
    refine sq1 ?_
    refine sq97 ?_
    refine z131 ?_
    refine sq79 ?_
    refine z123 ?_
    refine sq79 ?_
    refine z131 ?_
    refine sq28 ?_
    rw [name_g]
    cases hG : nmN (List.replicate j c)
    · rw [hG] at hF
      have wen := wasm_encode M hF.wo
      have wma := wasm_may M hF.wo
      rw [hF.may] at wma
      rw [hF.enc0] at wen
      have wd := wasm_decode [] (by simp) (by simp)
      rw [dec_nil] at wd
      have wem := ref_eq md0 M md0_w hF.wo.w md0_z hF.z
      refine rgT ?_
      refine z99 ?_
      refine clA Tryz.call13 wen rfl bargsT noT ?_
      rintro _ σ' ⟨q75, rfl, rfl⟩ h75
      replace h75 := lnewT h75; repeat rcases h75 with ⟨_, h75⟩
      apply rs_sto; exact nflT
      refine fzv (j := 75) rfl sdelT (bor_own sgT (by simp)) ?_
      refine cw [] Tryz.call17 wd rfl argsleT stleT ?_
      rintro _ σ' ⟨rfl, rfl⟩ h76
      apply rs_sto; exact nflT
      refine sq24 ?_
      apply al; rfl; (exact zcT); refine freshT fun r12 h12 => ?_; repeat rcases h12 with ⟨_, h12⟩
      apply stp; rfl; rfl; rfl; rfl; (exact sputT)
      refine sq22 ?_
      refine z99 ?_
      refine puA Tryz.call14 wma rfl pargsT nofT ?_
      refine sq70 ?_
      refine sq9 ?_
      refine z130 ?_
      refine z133 ?_
      first | refine ln rfl rfl rfl rfl ?_ | (refine gy rfl rfl ?_; refine lo (lop_move (E rfl)) rfl ?_) | refine lg rfl rfl (lop_move (E rfl)) rfl ?_ | refine lw rfl rfl (lop_move (E rfl)) rfl ?_ | refine lw rfl rfl (lop_no (v := .bool false)) rfl ?_
      refine z146 ?_
      first | refine ln rfl rfl rfl rfl ?_ | (refine gy rfl rfl ?_; refine lo (lop_move (by first | exact W rfl id | exact E rfl)) rfl ?_) | refine lg rfl rfl (lop_move (by first | exact W rfl (by first | exact id | simp) | exact E rfl)) rfl ?_ | refine lw rfl rfl (lop_move (by first | exact W rfl (by first | exact id | simp) | exact E rfl)) rfl ?_ | refine lw rfl rfl (lop_no (v := .bool false)) rfl ?_
      first | refine ln rfl rfl rfl rfl ?_ | (refine gy rfl rfl ?_; (first | refine lo (lop_load_ptr_agg (E rfl) rfl sgT (fun _ => Nat.le_of_ble_eq_true rfl)) rfl ?_ | refine lo (lop_load_el_agg (E rfl) rfl (fun hc => by first | rfl | exact get_map (by assumption) | assumption | exact get_map (at_bang (by omega))) (fun _ => Nat.le_of_ble_eq_true rfl)) rfl ?_)) | refine lg rfl rfl (lop_load_ptr_agg (E rfl) rfl sgT (fun _ => Nat.le_of_ble_eq_true rfl)) rfl ?_ | refine lg rfl rfl (lop_load_el_agg (E rfl) rfl (fun hc => by first | rfl | exact get_map (by assumption) | assumption | exact get_map (at_bang (by (try simp at hc) <;> omega))) (fun _ => Nat.le_of_ble_eq_true rfl)) rfl ?_ | refine lw rfl rfl (lop_load_ptr_agg (E rfl) rfl sgT (fun _ => Nat.le_of_ble_eq_true rfl)) rfl ?_ | refine lw rfl rfl (lop_load_el_agg (E rfl) rfl (fun hc => by first | rfl | exact get_map (by assumption) | assumption | exact get_map (at_bang (by (try simp at hc) <;> omega))) (fun _ => Nat.le_of_ble_eq_true rfl)) rfl ?_ | refine lw rfl rfl (lop_no (v := .bool false)) rfl ?_
      first | refine ln rfl rfl rfl rfl ?_ | (refine gy rfl rfl ?_; (first | refine lo (lop_load_ptr_agg (E rfl) rfl sgT (fun _ => Nat.le_of_ble_eq_true rfl)) rfl ?_ | refine lo (lop_load_el_agg (E rfl) rfl (fun hc => by first | rfl | exact get_map (by assumption) | assumption | exact get_map (at_bang (by omega))) (fun _ => Nat.le_of_ble_eq_true rfl)) rfl ?_)) | refine lg rfl rfl (lop_load_ptr_agg (E rfl) rfl sgT (fun _ => Nat.le_of_ble_eq_true rfl)) rfl ?_ | refine lg rfl rfl (lop_load_el_agg (E rfl) rfl (fun hc => by first | rfl | exact get_map (by assumption) | assumption | exact get_map (at_bang (by (try simp at hc) <;> omega))) (fun _ => Nat.le_of_ble_eq_true rfl)) rfl ?_ | refine lw rfl rfl (lop_load_ptr_agg (E rfl) rfl sgT (fun _ => Nat.le_of_ble_eq_true rfl)) rfl ?_ | refine lw rfl rfl (lop_load_el_agg (E rfl) rfl (fun hc => by first | rfl | exact get_map (by assumption) | assumption | exact get_map (at_bang (by (try simp at hc) <;> omega))) (fun _ => Nat.le_of_ble_eq_true rfl)) rfl ?_ | refine lw rfl rfl (lop_no (v := .bool false)) rfl ?_
      refine puwA rfl rfl Tryz.call16 (fun _ => wem) rfl pargsT nofT ?_
      first | refine ln rfl rfl rfl rfl ?_ | (refine gy rfl rfl ?_; (first | refine lo (lop_pick_t (by first | exact W rfl id | exact E rfl) (by first | exact W rfl (by simp) | exact E rfl)) rfl ?_ | refine lo (lop_pick_f (by first | exact W rfl id | exact E rfl) (E rfl)) rfl ?_ | refine lo (lop_pick (by first | exact W rfl id | exact E rfl) (by first | exact W rfl (by simp) | exact E rfl) (E rfl)) rfl ?_)) | refine lg rfl rfl (lop_pick_t (by first | exact W rfl (by first | exact id | simp) | exact E rfl) (by first | exact W rfl (by simp) | exact E rfl)) rfl ?_ | refine lg rfl rfl (lop_pick_f (by first | exact W rfl (by first | exact id | simp) | exact E rfl) (E rfl)) rfl ?_ | refine lg rfl rfl (lop_pick (by first | exact W rfl (by first | exact id | simp) | exact E rfl) (by first | exact W rfl (by simp) | exact E rfl) (E rfl)) rfl ?_ | refine lw rfl rfl (lop_pick_t (by first | exact W rfl (by first | exact id | simp) | exact E rfl) (by first | exact W rfl (by simp) | exact E rfl)) rfl ?_ | refine lw rfl rfl (lop_pick_f (by first | exact W rfl (by first | exact id | simp) | exact E rfl) (E rfl)) rfl ?_ | refine lw rfl rfl (lop_pick (by first | exact W rfl (by first | exact id | simp) | exact E rfl) (by first | exact W rfl (by simp) | exact E rfl) (E rfl)) rfl ?_ | refine lw rfl rfl (lop_no (v := .bool false)) rfl ?_
      refine z147 ?_
      refine sq79 ?_
      refine z133 ?_
      first | refine ln rfl rfl rfl rfl ?_ | (refine gy rfl rfl ?_; (first | refine lo (lop_load_ptr_agg (E rfl) rfl sgT (fun _ => Nat.le_of_ble_eq_true rfl)) rfl ?_ | refine lo (lop_load_el_agg (E rfl) rfl (fun hc => by first | rfl | exact get_map (by assumption) | assumption | exact get_map (at_bang (by omega))) (fun _ => Nat.le_of_ble_eq_true rfl)) rfl ?_)) | refine lg rfl rfl (lop_load_ptr_agg (E rfl) rfl sgT (fun _ => Nat.le_of_ble_eq_true rfl)) rfl ?_ | refine lg rfl rfl (lop_load_el_agg (E rfl) rfl (fun hc => by first | rfl | exact get_map (by assumption) | assumption | exact get_map (at_bang (by (try simp at hc) <;> omega))) (fun _ => Nat.le_of_ble_eq_true rfl)) rfl ?_ | refine lw rfl rfl (lop_load_ptr_agg (E rfl) rfl sgT (fun _ => Nat.le_of_ble_eq_true rfl)) rfl ?_ | refine lw rfl rfl (lop_load_el_agg (E rfl) rfl (fun hc => by first | rfl | exact get_map (by assumption) | assumption | exact get_map (at_bang (by (try simp at hc) <;> omega))) (fun _ => Nat.le_of_ble_eq_true rfl)) rfl ?_ | refine lw rfl rfl (lop_no (v := .bool false)) rfl ?_
      refine gy rfl rfl ?_
      refine clA Tryz.call13 wen rfl bargsT noT ?_
      rintro _ σ' ⟨q100, rfl, rfl⟩ h100
      replace h100 := lnewT h100; repeat rcases h100 with ⟨_, h100⟩
      apply rs_sto; exact nflT
      first | refine ln rfl rfl rfl rfl ?_ | (refine gy rfl rfl ?_; (first | refine lo (lop_len_map (by first | exact W rfl id | exact E rfl)) rfl ?_ | refine lo (lop_len_ro (by first | exact W rfl id | exact E rfl)) rfl ?_ | refine lo (lop_len_own (by first | exact W rfl id | exact E rfl)) rfl ?_)) | refine lg rfl rfl (lop_len_map (by first | exact W rfl (by first | exact id | simp) | exact E rfl)) rfl ?_ | refine lg rfl rfl (lop_len_ro (by first | exact W rfl (by first | exact id | simp) | exact E rfl)) rfl ?_ | refine lg rfl rfl (lop_len_own (by first | exact W rfl (by first | exact id | simp) | exact E rfl)) rfl ?_ | refine lw rfl rfl (lop_len_map (by first | exact W rfl (by first | exact id | simp) | exact E rfl)) rfl ?_ | refine lw rfl rfl (lop_len_ro (by first | exact W rfl (by first | exact id | simp) | exact E rfl)) rfl ?_ | refine lw rfl rfl (lop_len_own (by first | exact W rfl (by first | exact id | simp) | exact E rfl)) rfl ?_ | refine lw rfl rfl (lop_no (v := .bool false)) rfl ?_
      refine z146 ?_
      refine z147 ?_
      refine sq28 ?_
      apply aend; exact resT
      · exact ⟨rfl, rfl⟩
      · exact stleT
    · rw [hG] at hF
      have wen := wasm_encode M hF.wo
      have wma := wasm_may M hF.wo
      rw [hF.may] at wma
      rw [hF.enc] at wen
      have wd := wasm_decode (writB M) (by have := hF.le rfl; omega) (by rw [← hF.enc]; exact encB_lt hF.wo)
      rw [dec_back hF.may hF.wo.ok] at wd
      have weq := ref_eq M M hF.wo.w hF.wo.w hF.z hF.z
      rw [eqM_self] at weq
      refine rgT ?_
      refine z99 ?_
      refine clA Tryz.call13 wen rfl bargsT noT ?_
      rintro _ σ' ⟨q75, rfl, rfl⟩ h75
      replace h75 := lnewT h75; repeat rcases h75 with ⟨_, h75⟩
      apply rs_sto; exact nflT
      refine fzv (j := 75) rfl sdelT (bor_own sgT (by simp)) ?_
      refine cw [] Tryz.call17 wd rfl argsleT stleT ?_
      rintro _ σ' ⟨rfl, rfl⟩ h76
      apply rs_sto; exact nflT
      refine sq24 ?_
      apply al; rfl; (exact zcT); refine freshT fun r12 h12 => ?_; repeat rcases h12 with ⟨_, h12⟩
      apply stp; rfl; rfl; rfl; rfl; (exact sputT)
      refine sq22 ?_
      refine z99 ?_
      refine puA Tryz.call14 wma rfl pargsT nofT ?_
      refine sq70 ?_
      refine sq9 ?_
      refine z130 ?_
      refine z133 ?_
      first | refine ln rfl rfl rfl rfl ?_ | (refine gy rfl rfl ?_; refine lo (lop_move (E rfl)) rfl ?_) | refine lg rfl rfl (lop_move (E rfl)) rfl ?_ | refine lw rfl rfl (lop_move (E rfl)) rfl ?_ | refine lw rfl rfl (lop_no (v := .bool false)) rfl ?_
      refine z146 ?_
      first | refine ln rfl rfl rfl rfl ?_ | (refine gy rfl rfl ?_; refine lo (lop_move (by first | exact W rfl id | exact E rfl)) rfl ?_) | refine lg rfl rfl (lop_move (by first | exact W rfl (by first | exact id | simp) | exact E rfl)) rfl ?_ | refine lw rfl rfl (lop_move (by first | exact W rfl (by first | exact id | simp) | exact E rfl)) rfl ?_ | refine lw rfl rfl (lop_no (v := .bool false)) rfl ?_
      first | refine ln rfl rfl rfl rfl ?_ | (refine gy rfl rfl ?_; (first | refine lo (lop_load_ptr_agg (E rfl) rfl sgT (fun _ => Nat.le_of_ble_eq_true rfl)) rfl ?_ | refine lo (lop_load_el_agg (E rfl) rfl (fun hc => by first | rfl | exact get_map (by assumption) | assumption | exact get_map (at_bang (by omega))) (fun _ => Nat.le_of_ble_eq_true rfl)) rfl ?_)) | refine lg rfl rfl (lop_load_ptr_agg (E rfl) rfl sgT (fun _ => Nat.le_of_ble_eq_true rfl)) rfl ?_ | refine lg rfl rfl (lop_load_el_agg (E rfl) rfl (fun hc => by first | rfl | exact get_map (by assumption) | assumption | exact get_map (at_bang (by (try simp at hc) <;> omega))) (fun _ => Nat.le_of_ble_eq_true rfl)) rfl ?_ | refine lw rfl rfl (lop_load_ptr_agg (E rfl) rfl sgT (fun _ => Nat.le_of_ble_eq_true rfl)) rfl ?_ | refine lw rfl rfl (lop_load_el_agg (E rfl) rfl (fun hc => by first | rfl | exact get_map (by assumption) | assumption | exact get_map (at_bang (by (try simp at hc) <;> omega))) (fun _ => Nat.le_of_ble_eq_true rfl)) rfl ?_ | refine lw rfl rfl (lop_no (v := .bool false)) rfl ?_
      first | refine ln rfl rfl rfl rfl ?_ | (refine gy rfl rfl ?_; (first | refine lo (lop_load_ptr_agg (E rfl) rfl sgT (fun _ => Nat.le_of_ble_eq_true rfl)) rfl ?_ | refine lo (lop_load_el_agg (E rfl) rfl (fun hc => by first | rfl | exact get_map (by assumption) | assumption | exact get_map (at_bang (by omega))) (fun _ => Nat.le_of_ble_eq_true rfl)) rfl ?_)) | refine lg rfl rfl (lop_load_ptr_agg (E rfl) rfl sgT (fun _ => Nat.le_of_ble_eq_true rfl)) rfl ?_ | refine lg rfl rfl (lop_load_el_agg (E rfl) rfl (fun hc => by first | rfl | exact get_map (by assumption) | assumption | exact get_map (at_bang (by (try simp at hc) <;> omega))) (fun _ => Nat.le_of_ble_eq_true rfl)) rfl ?_ | refine lw rfl rfl (lop_load_ptr_agg (E rfl) rfl sgT (fun _ => Nat.le_of_ble_eq_true rfl)) rfl ?_ | refine lw rfl rfl (lop_load_el_agg (E rfl) rfl (fun hc => by first | rfl | exact get_map (by assumption) | assumption | exact get_map (at_bang (by (try simp at hc) <;> omega))) (fun _ => Nat.le_of_ble_eq_true rfl)) rfl ?_ | refine lw rfl rfl (lop_no (v := .bool false)) rfl ?_
      refine pugA rfl rfl Tryz.call16 (fun _ => weq) rfl pargsT nofT ?_
      first | refine ln rfl rfl rfl rfl ?_ | (refine gy rfl rfl ?_; (first | refine lo (lop_pick_t (by first | exact W rfl id | exact E rfl) (by first | exact W rfl (by simp) | exact E rfl)) rfl ?_ | refine lo (lop_pick_f (by first | exact W rfl id | exact E rfl) (E rfl)) rfl ?_ | refine lo (lop_pick (by first | exact W rfl id | exact E rfl) (by first | exact W rfl (by simp) | exact E rfl) (E rfl)) rfl ?_)) | refine lg rfl rfl (lop_pick_t (by first | exact W rfl (by first | exact id | simp) | exact E rfl) (by first | exact W rfl (by simp) | exact E rfl)) rfl ?_ | refine lg rfl rfl (lop_pick_f (by first | exact W rfl (by first | exact id | simp) | exact E rfl) (E rfl)) rfl ?_ | refine lg rfl rfl (lop_pick (by first | exact W rfl (by first | exact id | simp) | exact E rfl) (by first | exact W rfl (by simp) | exact E rfl) (E rfl)) rfl ?_ | refine lw rfl rfl (lop_pick_t (by first | exact W rfl (by first | exact id | simp) | exact E rfl) (by first | exact W rfl (by simp) | exact E rfl)) rfl ?_ | refine lw rfl rfl (lop_pick_f (by first | exact W rfl (by first | exact id | simp) | exact E rfl) (E rfl)) rfl ?_ | refine lw rfl rfl (lop_pick (by first | exact W rfl (by first | exact id | simp) | exact E rfl) (by first | exact W rfl (by simp) | exact E rfl) (E rfl)) rfl ?_ | refine lw rfl rfl (lop_no (v := .bool false)) rfl ?_
      refine z147 ?_
      refine sq79 ?_
      refine z133 ?_
      first | refine ln rfl rfl rfl rfl ?_ | (refine gy rfl rfl ?_; (first | refine lo (lop_load_ptr_agg (E rfl) rfl sgT (fun _ => Nat.le_of_ble_eq_true rfl)) rfl ?_ | refine lo (lop_load_el_agg (E rfl) rfl (fun hc => by first | rfl | exact get_map (by assumption) | assumption | exact get_map (at_bang (by omega))) (fun _ => Nat.le_of_ble_eq_true rfl)) rfl ?_)) | refine lg rfl rfl (lop_load_ptr_agg (E rfl) rfl sgT (fun _ => Nat.le_of_ble_eq_true rfl)) rfl ?_ | refine lg rfl rfl (lop_load_el_agg (E rfl) rfl (fun hc => by first | rfl | exact get_map (by assumption) | assumption | exact get_map (at_bang (by (try simp at hc) <;> omega))) (fun _ => Nat.le_of_ble_eq_true rfl)) rfl ?_ | refine lw rfl rfl (lop_load_ptr_agg (E rfl) rfl sgT (fun _ => Nat.le_of_ble_eq_true rfl)) rfl ?_ | refine lw rfl rfl (lop_load_el_agg (E rfl) rfl (fun hc => by first | rfl | exact get_map (by assumption) | assumption | exact get_map (at_bang (by (try simp at hc) <;> omega))) (fun _ => Nat.le_of_ble_eq_true rfl)) rfl ?_ | refine lw rfl rfl (lop_no (v := .bool false)) rfl ?_
      refine ln rfl rfl rfl rfl ?_
      first | refine ln rfl rfl rfl rfl ?_ | (refine gy rfl rfl ?_; (first | refine lo (lop_len_map (by first | exact W rfl id | exact E rfl)) rfl ?_ | refine lo (lop_len_ro (by first | exact W rfl id | exact E rfl)) rfl ?_ | refine lo (lop_len_own (by first | exact W rfl id | exact E rfl)) rfl ?_)) | refine lg rfl rfl (lop_len_map (by first | exact W rfl (by first | exact id | simp) | exact E rfl)) rfl ?_ | refine lg rfl rfl (lop_len_ro (by first | exact W rfl (by first | exact id | simp) | exact E rfl)) rfl ?_ | refine lg rfl rfl (lop_len_own (by first | exact W rfl (by first | exact id | simp) | exact E rfl)) rfl ?_ | refine lw rfl rfl (lop_len_map (by first | exact W rfl (by first | exact id | simp) | exact E rfl)) rfl ?_ | refine lw rfl rfl (lop_len_ro (by first | exact W rfl (by first | exact id | simp) | exact E rfl)) rfl ?_ | refine lw rfl rfl (lop_len_own (by first | exact W rfl (by first | exact id | simp) | exact E rfl)) rfl ?_ | refine lw rfl rfl (lop_no (v := .bool false)) rfl ?_
      refine z146 ?_
      refine z147 ?_
      refine sq28 ?_
      apply aend; exact resT
      · exact ⟨rfl, rfl⟩
      · exact stleT
  refine sq4 ?_
  refine z145 ?_
  refine z93 ?_
  refine z1 ?_; refine freshT fun r43 h43 => ?_; repeat rcases h43 with ⟨_, h43⟩
  refine z59 ?_
  apply stp; rfl; rfl; rfl; rfl; (exact sputT)
  refine sq6 ?_
  have hF := name_ex (List.replicate j c) hst
  refine sw_go (sgo_fzb (r := r10) (q := r43) ssetT sdelT (.cons (.refl _) (.cons (.refl _) (.cons (.refl _) (.cons (.refl _) (.cons (.refl _) (.cons (.refl _) (.cons (.refl _) (.cons (.refl _) (.cons (.refl _) (.cons (.refl _) (.cons (bor_own sgT (by simp)) (.cons (.refl _) (.cons (.refl _) (.cons (.refl _) .nil))))))))))))))) ?_
  refine sw_go (sgo_leb (r := r10) (cs' := encMd { md0 with ex := [⟨List.replicate j c, 0⟩] }) ssetT (.cons (.le VLe.empty) (.cons (.le VLe.empty) (.cons (.le VLe.empty) (.cons (.refl _) (.cons (.refl _) (.cons (.refl _) (.cons (.refl _) (.cons (.refl _) (.cons (.refl _) (.cons (.le VLe.empty) (.cons (.refl _) (.cons (.le VLe.empty) (.cons (.le VLe.empty) (.cons (.le VLe.empty) .nil))))))))))))))) ?_
  generalize ({ md0 with ex := [⟨List.replicate j c, 0⟩] } : Md) = M at hF ⊢
  refine sq1 ?_
  refine sq97 ?_
  refine z131 ?_
  refine sq79 ?_
  refine z123 ?_
  refine sq79 ?_
  refine z131 ?_
  refine sq28 ?_
  rw [name_g]
  cases hG : nmN (List.replicate j c)
  · rw [hG] at hF
    have wen := wasm_encode M hF.wo
    have wma := wasm_may M hF.wo
    rw [hF.may] at wma
    rw [hF.enc0] at wen
    have wd := wasm_decode [] (by simp) (by simp)
    rw [dec_nil] at wd
    have wem := ref_eq md0 M md0_w hF.wo.w md0_z hF.z
    refine rgT ?_
    refine z99 ?_
    refine clA Tryz.call13 wen rfl bargsT noT ?_
    rintro _ σ' ⟨q75, rfl, rfl⟩ h75
    replace h75 := lnewT h75; repeat rcases h75 with ⟨_, h75⟩
    apply rs_sto; exact nflT
    refine fzv (j := 75) rfl sdelT (bor_own sgT (by simp)) ?_
    refine cw [] Tryz.call17 wd rfl argsleT stleT ?_
    rintro _ σ' ⟨rfl, rfl⟩ h76
    apply rs_sto; exact nflT
    refine sq24 ?_
    apply al; rfl; (exact zcT); refine freshT fun r12 h12 => ?_; repeat rcases h12 with ⟨_, h12⟩
    apply stp; rfl; rfl; rfl; rfl; (exact sputT)
    refine sq22 ?_
    refine z99 ?_
    refine puA Tryz.call14 wma rfl pargsT nofT ?_
    refine sq70 ?_
    refine sq9 ?_
    refine z130 ?_
    refine z133 ?_
    first | refine ln rfl rfl rfl rfl ?_ | (refine gy rfl rfl ?_; refine lo (lop_move (E rfl)) rfl ?_) | refine lg rfl rfl (lop_move (E rfl)) rfl ?_ | refine lw rfl rfl (lop_move (E rfl)) rfl ?_ | refine lw rfl rfl (lop_no (v := .bool false)) rfl ?_
    refine z146 ?_
    first | refine ln rfl rfl rfl rfl ?_ | (refine gy rfl rfl ?_; refine lo (lop_move (by first | exact W rfl id | exact E rfl)) rfl ?_) | refine lg rfl rfl (lop_move (by first | exact W rfl (by first | exact id | simp) | exact E rfl)) rfl ?_ | refine lw rfl rfl (lop_move (by first | exact W rfl (by first | exact id | simp) | exact E rfl)) rfl ?_ | refine lw rfl rfl (lop_no (v := .bool false)) rfl ?_
    first | refine ln rfl rfl rfl rfl ?_ | (refine gy rfl rfl ?_; (first | refine lo (lop_load_ptr_agg (E rfl) rfl sgT (fun _ => Nat.le_of_ble_eq_true rfl)) rfl ?_ | refine lo (lop_load_el_agg (E rfl) rfl (fun hc => by first | rfl | exact get_map (by assumption) | assumption | exact get_map (at_bang (by omega))) (fun _ => Nat.le_of_ble_eq_true rfl)) rfl ?_)) | refine lg rfl rfl (lop_load_ptr_agg (E rfl) rfl sgT (fun _ => Nat.le_of_ble_eq_true rfl)) rfl ?_ | refine lg rfl rfl (lop_load_el_agg (E rfl) rfl (fun hc => by first | rfl | exact get_map (by assumption) | assumption | exact get_map (at_bang (by (try simp at hc) <;> omega))) (fun _ => Nat.le_of_ble_eq_true rfl)) rfl ?_ | refine lw rfl rfl (lop_load_ptr_agg (E rfl) rfl sgT (fun _ => Nat.le_of_ble_eq_true rfl)) rfl ?_ | refine lw rfl rfl (lop_load_el_agg (E rfl) rfl (fun hc => by first | rfl | exact get_map (by assumption) | assumption | exact get_map (at_bang (by (try simp at hc) <;> omega))) (fun _ => Nat.le_of_ble_eq_true rfl)) rfl ?_ | refine lw rfl rfl (lop_no (v := .bool false)) rfl ?_
    first | refine ln rfl rfl rfl rfl ?_ | (refine gy rfl rfl ?_; (first | refine lo (lop_load_ptr_agg (E rfl) rfl sgT (fun _ => Nat.le_of_ble_eq_true rfl)) rfl ?_ | refine lo (lop_load_el_agg (E rfl) rfl (fun hc => by first | rfl | exact get_map (by assumption) | assumption | exact get_map (at_bang (by omega))) (fun _ => Nat.le_of_ble_eq_true rfl)) rfl ?_)) | refine lg rfl rfl (lop_load_ptr_agg (E rfl) rfl sgT (fun _ => Nat.le_of_ble_eq_true rfl)) rfl ?_ | refine lg rfl rfl (lop_load_el_agg (E rfl) rfl (fun hc => by first | rfl | exact get_map (by assumption) | assumption | exact get_map (at_bang (by (try simp at hc) <;> omega))) (fun _ => Nat.le_of_ble_eq_true rfl)) rfl ?_ | refine lw rfl rfl (lop_load_ptr_agg (E rfl) rfl sgT (fun _ => Nat.le_of_ble_eq_true rfl)) rfl ?_ | refine lw rfl rfl (lop_load_el_agg (E rfl) rfl (fun hc => by first | rfl | exact get_map (by assumption) | assumption | exact get_map (at_bang (by (try simp at hc) <;> omega))) (fun _ => Nat.le_of_ble_eq_true rfl)) rfl ?_ | refine lw rfl rfl (lop_no (v := .bool false)) rfl ?_
    refine puwA rfl rfl Tryz.call16 (fun _ => wem) rfl pargsT nofT ?_
    first | refine ln rfl rfl rfl rfl ?_ | (refine gy rfl rfl ?_; (first | refine lo (lop_pick_t (by first | exact W rfl id | exact E rfl) (by first | exact W rfl (by simp) | exact E rfl)) rfl ?_ | refine lo (lop_pick_f (by first | exact W rfl id | exact E rfl) (E rfl)) rfl ?_ | refine lo (lop_pick (by first | exact W rfl id | exact E rfl) (by first | exact W rfl (by simp) | exact E rfl) (E rfl)) rfl ?_)) | refine lg rfl rfl (lop_pick_t (by first | exact W rfl (by first | exact id | simp) | exact E rfl) (by first | exact W rfl (by simp) | exact E rfl)) rfl ?_ | refine lg rfl rfl (lop_pick_f (by first | exact W rfl (by first | exact id | simp) | exact E rfl) (E rfl)) rfl ?_ | refine lg rfl rfl (lop_pick (by first | exact W rfl (by first | exact id | simp) | exact E rfl) (by first | exact W rfl (by simp) | exact E rfl) (E rfl)) rfl ?_ | refine lw rfl rfl (lop_pick_t (by first | exact W rfl (by first | exact id | simp) | exact E rfl) (by first | exact W rfl (by simp) | exact E rfl)) rfl ?_ | refine lw rfl rfl (lop_pick_f (by first | exact W rfl (by first | exact id | simp) | exact E rfl) (E rfl)) rfl ?_ | refine lw rfl rfl (lop_pick (by first | exact W rfl (by first | exact id | simp) | exact E rfl) (by first | exact W rfl (by simp) | exact E rfl) (E rfl)) rfl ?_ | refine lw rfl rfl (lop_no (v := .bool false)) rfl ?_
    refine z147 ?_
    refine sq79 ?_
    refine z133 ?_
    first | refine ln rfl rfl rfl rfl ?_ | (refine gy rfl rfl ?_; (first | refine lo (lop_load_ptr_agg (E rfl) rfl sgT (fun _ => Nat.le_of_ble_eq_true rfl)) rfl ?_ | refine lo (lop_load_el_agg (E rfl) rfl (fun hc => by first | rfl | exact get_map (by assumption) | assumption | exact get_map (at_bang (by omega))) (fun _ => Nat.le_of_ble_eq_true rfl)) rfl ?_)) | refine lg rfl rfl (lop_load_ptr_agg (E rfl) rfl sgT (fun _ => Nat.le_of_ble_eq_true rfl)) rfl ?_ | refine lg rfl rfl (lop_load_el_agg (E rfl) rfl (fun hc => by first | rfl | exact get_map (by assumption) | assumption | exact get_map (at_bang (by (try simp at hc) <;> omega))) (fun _ => Nat.le_of_ble_eq_true rfl)) rfl ?_ | refine lw rfl rfl (lop_load_ptr_agg (E rfl) rfl sgT (fun _ => Nat.le_of_ble_eq_true rfl)) rfl ?_ | refine lw rfl rfl (lop_load_el_agg (E rfl) rfl (fun hc => by first | rfl | exact get_map (by assumption) | assumption | exact get_map (at_bang (by (try simp at hc) <;> omega))) (fun _ => Nat.le_of_ble_eq_true rfl)) rfl ?_ | refine lw rfl rfl (lop_no (v := .bool false)) rfl ?_
    refine gy rfl rfl ?_
    refine clA Tryz.call13 wen rfl bargsT noT ?_
    rintro _ σ' ⟨q100, rfl, rfl⟩ h100
    replace h100 := lnewT h100; repeat rcases h100 with ⟨_, h100⟩
    apply rs_sto; exact nflT
    first | refine ln rfl rfl rfl rfl ?_ | (refine gy rfl rfl ?_; (first | refine lo (lop_len_map (by first | exact W rfl id | exact E rfl)) rfl ?_ | refine lo (lop_len_ro (by first | exact W rfl id | exact E rfl)) rfl ?_ | refine lo (lop_len_own (by first | exact W rfl id | exact E rfl)) rfl ?_)) | refine lg rfl rfl (lop_len_map (by first | exact W rfl (by first | exact id | simp) | exact E rfl)) rfl ?_ | refine lg rfl rfl (lop_len_ro (by first | exact W rfl (by first | exact id | simp) | exact E rfl)) rfl ?_ | refine lg rfl rfl (lop_len_own (by first | exact W rfl (by first | exact id | simp) | exact E rfl)) rfl ?_ | refine lw rfl rfl (lop_len_map (by first | exact W rfl (by first | exact id | simp) | exact E rfl)) rfl ?_ | refine lw rfl rfl (lop_len_ro (by first | exact W rfl (by first | exact id | simp) | exact E rfl)) rfl ?_ | refine lw rfl rfl (lop_len_own (by first | exact W rfl (by first | exact id | simp) | exact E rfl)) rfl ?_ | refine lw rfl rfl (lop_no (v := .bool false)) rfl ?_
    refine z146 ?_
    refine z147 ?_
    refine sq28 ?_
    apply aend; exact resT
    · exact ⟨rfl, rfl⟩
    · exact stleT
  · rw [hG] at hF
    have wen := wasm_encode M hF.wo
    have wma := wasm_may M hF.wo
    rw [hF.may] at wma
    rw [hF.enc] at wen
    have wd := wasm_decode (writB M) (by have := hF.le rfl; omega) (by rw [← hF.enc]; exact encB_lt hF.wo)
    rw [dec_back hF.may hF.wo.ok] at wd
    have weq := ref_eq M M hF.wo.w hF.wo.w hF.z hF.z
    rw [eqM_self] at weq
    refine rgT ?_
    refine z99 ?_
    refine clA Tryz.call13 wen rfl bargsT noT ?_
    rintro _ σ' ⟨q75, rfl, rfl⟩ h75
    replace h75 := lnewT h75; repeat rcases h75 with ⟨_, h75⟩
    apply rs_sto; exact nflT
    refine fzv (j := 75) rfl sdelT (bor_own sgT (by simp)) ?_
    refine cw [] Tryz.call17 wd rfl argsleT stleT ?_
    rintro _ σ' ⟨rfl, rfl⟩ h76
    apply rs_sto; exact nflT
    refine sq24 ?_
    apply al; rfl; (exact zcT); refine freshT fun r12 h12 => ?_; repeat rcases h12 with ⟨_, h12⟩
    apply stp; rfl; rfl; rfl; rfl; (exact sputT)
    refine sq22 ?_
    refine z99 ?_
    refine puA Tryz.call14 wma rfl pargsT nofT ?_
    refine sq70 ?_
    refine sq9 ?_
    refine z130 ?_
    refine z133 ?_
    first | refine ln rfl rfl rfl rfl ?_ | (refine gy rfl rfl ?_; refine lo (lop_move (E rfl)) rfl ?_) | refine lg rfl rfl (lop_move (E rfl)) rfl ?_ | refine lw rfl rfl (lop_move (E rfl)) rfl ?_ | refine lw rfl rfl (lop_no (v := .bool false)) rfl ?_
    refine z146 ?_
    first | refine ln rfl rfl rfl rfl ?_ | (refine gy rfl rfl ?_; refine lo (lop_move (by first | exact W rfl id | exact E rfl)) rfl ?_) | refine lg rfl rfl (lop_move (by first | exact W rfl (by first | exact id | simp) | exact E rfl)) rfl ?_ | refine lw rfl rfl (lop_move (by first | exact W rfl (by first | exact id | simp) | exact E rfl)) rfl ?_ | refine lw rfl rfl (lop_no (v := .bool false)) rfl ?_
    first | refine ln rfl rfl rfl rfl ?_ | (refine gy rfl rfl ?_; (first | refine lo (lop_load_ptr_agg (E rfl) rfl sgT (fun _ => Nat.le_of_ble_eq_true rfl)) rfl ?_ | refine lo (lop_load_el_agg (E rfl) rfl (fun hc => by first | rfl | exact get_map (by assumption) | assumption | exact get_map (at_bang (by omega))) (fun _ => Nat.le_of_ble_eq_true rfl)) rfl ?_)) | refine lg rfl rfl (lop_load_ptr_agg (E rfl) rfl sgT (fun _ => Nat.le_of_ble_eq_true rfl)) rfl ?_ | refine lg rfl rfl (lop_load_el_agg (E rfl) rfl (fun hc => by first | rfl | exact get_map (by assumption) | assumption | exact get_map (at_bang (by (try simp at hc) <;> omega))) (fun _ => Nat.le_of_ble_eq_true rfl)) rfl ?_ | refine lw rfl rfl (lop_load_ptr_agg (E rfl) rfl sgT (fun _ => Nat.le_of_ble_eq_true rfl)) rfl ?_ | refine lw rfl rfl (lop_load_el_agg (E rfl) rfl (fun hc => by first | rfl | exact get_map (by assumption) | assumption | exact get_map (at_bang (by (try simp at hc) <;> omega))) (fun _ => Nat.le_of_ble_eq_true rfl)) rfl ?_ | refine lw rfl rfl (lop_no (v := .bool false)) rfl ?_
    first | refine ln rfl rfl rfl rfl ?_ | (refine gy rfl rfl ?_; (first | refine lo (lop_load_ptr_agg (E rfl) rfl sgT (fun _ => Nat.le_of_ble_eq_true rfl)) rfl ?_ | refine lo (lop_load_el_agg (E rfl) rfl (fun hc => by first | rfl | exact get_map (by assumption) | assumption | exact get_map (at_bang (by omega))) (fun _ => Nat.le_of_ble_eq_true rfl)) rfl ?_)) | refine lg rfl rfl (lop_load_ptr_agg (E rfl) rfl sgT (fun _ => Nat.le_of_ble_eq_true rfl)) rfl ?_ | refine lg rfl rfl (lop_load_el_agg (E rfl) rfl (fun hc => by first | rfl | exact get_map (by assumption) | assumption | exact get_map (at_bang (by (try simp at hc) <;> omega))) (fun _ => Nat.le_of_ble_eq_true rfl)) rfl ?_ | refine lw rfl rfl (lop_load_ptr_agg (E rfl) rfl sgT (fun _ => Nat.le_of_ble_eq_true rfl)) rfl ?_ | refine lw rfl rfl (lop_load_el_agg (E rfl) rfl (fun hc => by first | rfl | exact get_map (by assumption) | assumption | exact get_map (at_bang (by (try simp at hc) <;> omega))) (fun _ => Nat.le_of_ble_eq_true rfl)) rfl ?_ | refine lw rfl rfl (lop_no (v := .bool false)) rfl ?_
    refine pugA rfl rfl Tryz.call16 (fun _ => weq) rfl pargsT nofT ?_
    first | refine ln rfl rfl rfl rfl ?_ | (refine gy rfl rfl ?_; (first | refine lo (lop_pick_t (by first | exact W rfl id | exact E rfl) (by first | exact W rfl (by simp) | exact E rfl)) rfl ?_ | refine lo (lop_pick_f (by first | exact W rfl id | exact E rfl) (E rfl)) rfl ?_ | refine lo (lop_pick (by first | exact W rfl id | exact E rfl) (by first | exact W rfl (by simp) | exact E rfl) (E rfl)) rfl ?_)) | refine lg rfl rfl (lop_pick_t (by first | exact W rfl (by first | exact id | simp) | exact E rfl) (by first | exact W rfl (by simp) | exact E rfl)) rfl ?_ | refine lg rfl rfl (lop_pick_f (by first | exact W rfl (by first | exact id | simp) | exact E rfl) (E rfl)) rfl ?_ | refine lg rfl rfl (lop_pick (by first | exact W rfl (by first | exact id | simp) | exact E rfl) (by first | exact W rfl (by simp) | exact E rfl) (E rfl)) rfl ?_ | refine lw rfl rfl (lop_pick_t (by first | exact W rfl (by first | exact id | simp) | exact E rfl) (by first | exact W rfl (by simp) | exact E rfl)) rfl ?_ | refine lw rfl rfl (lop_pick_f (by first | exact W rfl (by first | exact id | simp) | exact E rfl) (E rfl)) rfl ?_ | refine lw rfl rfl (lop_pick (by first | exact W rfl (by first | exact id | simp) | exact E rfl) (by first | exact W rfl (by simp) | exact E rfl) (E rfl)) rfl ?_ | refine lw rfl rfl (lop_no (v := .bool false)) rfl ?_
    refine z147 ?_
    refine sq79 ?_
    refine z133 ?_
    first | refine ln rfl rfl rfl rfl ?_ | (refine gy rfl rfl ?_; (first | refine lo (lop_load_ptr_agg (E rfl) rfl sgT (fun _ => Nat.le_of_ble_eq_true rfl)) rfl ?_ | refine lo (lop_load_el_agg (E rfl) rfl (fun hc => by first | rfl | exact get_map (by assumption) | assumption | exact get_map (at_bang (by omega))) (fun _ => Nat.le_of_ble_eq_true rfl)) rfl ?_)) | refine lg rfl rfl (lop_load_ptr_agg (E rfl) rfl sgT (fun _ => Nat.le_of_ble_eq_true rfl)) rfl ?_ | refine lg rfl rfl (lop_load_el_agg (E rfl) rfl (fun hc => by first | rfl | exact get_map (by assumption) | assumption | exact get_map (at_bang (by (try simp at hc) <;> omega))) (fun _ => Nat.le_of_ble_eq_true rfl)) rfl ?_ | refine lw rfl rfl (lop_load_ptr_agg (E rfl) rfl sgT (fun _ => Nat.le_of_ble_eq_true rfl)) rfl ?_ | refine lw rfl rfl (lop_load_el_agg (E rfl) rfl (fun hc => by first | rfl | exact get_map (by assumption) | assumption | exact get_map (at_bang (by (try simp at hc) <;> omega))) (fun _ => Nat.le_of_ble_eq_true rfl)) rfl ?_ | refine lw rfl rfl (lop_no (v := .bool false)) rfl ?_
    refine ln rfl rfl rfl rfl ?_
    first | refine ln rfl rfl rfl rfl ?_ | (refine gy rfl rfl ?_; (first | refine lo (lop_len_map (by first | exact W rfl id | exact E rfl)) rfl ?_ | refine lo (lop_len_ro (by first | exact W rfl id | exact E rfl)) rfl ?_ | refine lo (lop_len_own (by first | exact W rfl id | exact E rfl)) rfl ?_)) | refine lg rfl rfl (lop_len_map (by first | exact W rfl (by first | exact id | simp) | exact E rfl)) rfl ?_ | refine lg rfl rfl (lop_len_ro (by first | exact W rfl (by first | exact id | simp) | exact E rfl)) rfl ?_ | refine lg rfl rfl (lop_len_own (by first | exact W rfl (by first | exact id | simp) | exact E rfl)) rfl ?_ | refine lw rfl rfl (lop_len_map (by first | exact W rfl (by first | exact id | simp) | exact E rfl)) rfl ?_ | refine lw rfl rfl (lop_len_ro (by first | exact W rfl (by first | exact id | simp) | exact E rfl)) rfl ?_ | refine lw rfl rfl (lop_len_own (by first | exact W rfl (by first | exact id | simp) | exact E rfl)) rfl ?_ | refine lw rfl rfl (lop_no (v := .bool false)) rfl ?_
    refine z146 ?_
    refine z147 ?_
    refine sq28 ?_
    apply aend; exact resT
    · exact ⟨rfl, rfl⟩
    · exact stleT
theorem law_wasmNames3 (a c w : Int) (hc : 0 ≤ c ∧ c ≤ 255) : SCall Tryz.prog 6 [.int .i64 a, .int .u8 c, .int .i64 w] [] (fun y _ => y = .bool true) := (law_wasmNames2 a c w hc).mono fun _ _ h => h.1
end Go.Proofs.YtfihcehdoikfkaaGreat
