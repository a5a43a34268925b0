import Derived.Test.YthhlimmcncbopaaGreatCA4
import Derived.Test.YthhlimmcncbopaaGreatCA3
import Derived.ChangeKeysEq
import Derived.Laws.StructEq
set_option linter.unusedSimpArgs false
set_option linter.unusedVariables false
set_option maxRecDepth 100000
set_option maxHeartbeats 4000000
/-
  A module is read.
-/
namespace Go.Proofs.YthhlimmcncbopaaGreat
open Go.RowKit Go.ChangeShapes Go.WideShapes Go.ChangeAt Go.Deep
attribute [local irreducible] SW RS RD AThen ABlock
/-- a box of which less is told -/
theorem sgo_leb {fr : Fr} {σ σ' : Sto} {r : Nat} {bt : TypeId} {cs cs' : List AV} (hs : SSet σ r (.box bt cs) r (.box bt cs') σ') (hb : BorL σ [] cs cs') : SGo ⟨fr, σ⟩ ⟨fr, σ'⟩ := by
  refine sgo_freeze [] (fun i x' hi => ⟨x', hi, .refl _⟩) (fun p hp => ?_)
  refine ⟨by simp, ?_⟩
  rcases List.mem_cons.1 (hs.sub p hp) with rfl | h
  · exact ⟨_, sget_mem hs.get, .box (bagg hb)⟩
  · exact ⟨p.2, (mem_sdrop h).1, .refl _⟩
theorem bor_md0 {σ : Sto} {ts : List Nat} : BorL σ ts [.ro 0 [] .nil, .ro 0 [] .nil, .ro 0 [] .nil, .bool false, .int .i64 0, .int .i64 0, .bool false, .int .i64 0, .int .i64 0, .ro 0 [] .nil, .ro 0 [] .nil, .ro 0 [] .nil, .ro 0 [] .nil, .ro 0 [] .nil] (encMd md0) :=
  .cons (.le VLe.empty) (.cons (.le VLe.empty) (.cons (.le VLe.empty) (.cons (.refl _) (.cons (.refl _) (.cons (.refl _) (.cons (.refl _) (.cons (.refl _) (.cons (.refl _) (.cons (.le VLe.empty) (.cons (.le VLe.empty) (.cons (.le VLe.empty) (.cons (.le VLe.empty) (.cons (.le VLe.empty) .nil)))))))))))))
theorem prs_nil : (prsN []).2.2 = true := by decide
theorem dec_err {b : List Nat} {m : Md} {z : Bool} (h80 : ¬ 8000 < b.length) (hB : (prsN b).2.2 = false) (hM : (prsN b).1 = m) (hz : z = true → (encB m).map encU = []) (hbn : b ≠ []) (g : (if z = true then true else !decide (encB m = b)) = true) : decM b = (md0, 1) := by
  unfold decM
  rw [if_neg h80, if_neg (by rw [hB]; simp), hM, if_neg]
  rintro ⟨e1, e2⟩
  have e3 : encB m = b := by unfold encB; rw [if_pos e1, e2]
  rw [e3] at g hz
  cases z with
  | true => exact hbn (by simpa using hz rfl)
  | false => simp at g
theorem dec_fine {b : List Nat} {m : Md} {z : Bool} (h80 : ¬ 8000 < b.length) (hB : (prsN b).2.2 = false) (hM : (prsN b).1 = m) (hbn : b ≠ []) (g : (if z = true then true else !decide (encB m = b)) = false) : decM b = (m, 0) := by
  have hb : encB m = b := by cases z with
    | true => simp at g
    | false => simpa using g
  have hy : mayM m = true := by
    cases hh : mayM m with
    | true => rfl
    | false => unfold encB at hb; rw [hh] at hb; exact absurd hb.symm hbn
  unfold encB at hb
  rw [if_pos hy] at hb
  unfold decM
  rw [if_neg h80, if_neg (by rw [hB]; simp), hM, if_pos ⟨hy, hb⟩]
/-! ### what is written are bytes -/
theorem ltA {a c : List Nat} (h1 : ∀ x ∈ a, x < 256) (h2 : ∀ x ∈ c, x < 256) : ∀ x ∈ a ++ c, x < 256 := fun x hx => (List.mem_append.1 hx).elim (h1 x) (h2 x)
theorem vec_lt {α : Type} {l : List α} {pt : α → List Nat} (h : ∀ x ∈ l, ∀ c ∈ pt x, c < 256) : ∀ c ∈ vecB l pt, c < 256 := ltA (uB_lt _) fun c hc => by
  obtain ⟨x, hx, hc⟩ := List.mem_flatMap.1 hc
  exact h x hx c hc
theorem sec_lt {α : Type} {no : Nat} {l : List α} {pt : α → List Nat} (hno : no < 256) (h : ∀ x ∈ l, ∀ c ∈ pt x, c < 256) : ∀ c ∈ secB no l pt, c < 256 := by
  unfold secB
  split
  · simp
  · intro c hc
    rcases List.mem_cons.1 hc with rfl | hc
    · exact hno
    · exact ltA (uB_lt _) (vec_lt h) c hc
theorem kB_lt (k : Int) : ∀ c ∈ kB k, c < 256 := by unfold kB; split <;> simp
theorem con_lt {k n : Int} (hv : valN k n = true) (hn : -9223372036854775808 ≤ n ∧ n ≤ 9223372036854775807) : ∀ c ∈ conB k n, c < 256 := by
  obtain ⟨ho, hm, -⟩ := co_may hv hn
  exact ltA (putN_lt hm) (by simp)
theorem plc_lt {n : Int} (h : offN n = true) : ∀ c ∈ plcB n, c < 256 := by
  have hr : -2147483648 ≤ n ∧ n ≤ 2147483647 := by unfold offN at h; simpa using h
  intro c hc
  rcases List.mem_cons.1 hc with rfl | hc
  · decide
  · exact con_lt (k := 1) (n := n) (by unfold valN; simp; omega) (by omega) c hc
theorem lim_lt (l : Li) : ∀ c ∈ limB l, c < 256 := by
  unfold limB numB
  split
  · intro c hc
    rcases List.mem_cons.1 hc with rfl | hc
    · decide
    · exact uB_lt _ c hc
  · intro c hc
    rcases List.mem_cons.1 hc with rfl | hc
    · decide
    · exact ltA (uB_lt _) (uB_lt _) c hc
theorem txt_lt {s : List Nat} (h : nmN s = true) : ∀ c ∈ txtB s, c < 256 := ltA (uB_lt _) (bytes_txt h).2.1
theorem cod_lt {x : Co} (h : codN x = true) (hO : ∀ i ∈ x.bd, i.Ok) : ∀ c ∈ codB x, c < 256 := by
  unfold codN at h
  simp only [Bool.and_eq_true] at h
  refine ltA (uB_lt _) (ltA (vec_lt fun r _ => ltA (uB_lt _) (kB_lt _)) (putL_lt fun i hi => ⟨hO i hi, (all_of h.2).2 i hi⟩))
theorem writ_lt {m : Md} (h : mayA m = true) (hw : m.WO) : ∀ c ∈ writB m, c < 256 := by
  obtain ⟨hw, hO1, hO2⟩ := hw
  unfold mayA at h
  simp only [Bool.and_eq_true] at h
  obtain ⟨⟨⟨⟨-, hco⟩, hls⟩, htb⟩, hme⟩ := h
  unfold listsN at hls
  simp only [Bool.and_eq_true] at hls
  obtain ⟨⟨⟨⟨⟨⟨hty, him⟩, hfn⟩, hgl⟩, hex⟩, hel⟩, hda⟩ := hls
  unfold writB
  refine ltA (ltA (ltA (ltA (ltA (ltA (ltA (ltA (ltA (ltA ?_ ?_) ?_) ?_) ?_) ?_) ?_) ?_) ?_) ?_) ?_
  · decide
  · refine sec_lt (by decide) fun x _ c hc => ?_
    rcases List.mem_cons.1 hc with rfl | hc
    · decide
    · exact ltA (vec_lt fun k _ => kB_lt k) (vec_lt fun k _ => kB_lt k) c hc
  · refine sec_lt (by decide) fun x hx => ?_
    have := (all_of him).2 x hx
    simp only [Bool.and_eq_true] at this
    exact ltA (ltA (ltA (txt_lt this.1.1) (txt_lt this.1.2)) (by simp)) (uB_lt _)
  · exact sec_lt (by decide) fun x _ => uB_lt _
  · refine sec_lt (by decide) fun x _ c hc => ?_
    rcases List.mem_cons.1 hc with rfl | hc
    · decide
    · exact lim_lt x c hc
  · exact sec_lt (by decide) fun x _ => lim_lt x
  · refine sec_lt (by decide) fun x hx => ?_
    exact ltA (ltA (kB_lt _) (by intro c hc; rw [List.mem_singleton.1 hc]; split <;> decide)) (con_lt ((all_of hgl).2 x hx) (hO2 x hx))
  · refine sec_lt (by decide) fun x hx => ?_
    have := (all_of hex).2 x hx
    simp only [Bool.and_eq_true] at this
    exact ltA (ltA (txt_lt this.1) (by simp)) (uB_lt _)
  · refine sec_lt (by decide) fun x hx => ?_
    have := (all_of hel).2 x hx
    simp only [Bool.and_eq_true] at this
    exact ltA (plc_lt this.1) (vec_lt fun n _ => uB_lt _)
  · exact sec_lt (by decide) fun x hx => cod_lt ((all_of hco).2 x hx) (hO1 x hx)
  · refine sec_lt (by decide) fun x hx => ?_
    have := (all_of hda).2 x hx
    simp only [Bool.and_eq_true] at this
    exact ltA (ltA (plc_lt this.1) (uB_lt _)) (hw.da x hx)
theorem encB_lt {m : Md} (h : m.WO) : ∀ c ∈ encB m, c < 256 := by
  unfold encB
  split
  · next hy => exact writ_lt (may_a hy).1 h
  · simp
theorem wasm_decode (b : List Nat) (hb : b.length ≤ 100000) (hlt : ∀ c ∈ b, c < 256) : SCall Tryz.prog 73 [.ro 1 (b.map encU) .any] []
    (fun y σ => y = .tup [.agg (encMd (decM b).1), .int .i64 (decM b).2] ∧ σ = []) := by
  have hs0 : SOk (b, !decide (b.take headB.length = headB)) := ⟨hb, hlt⟩
  have k0 := sk_ok hs0 8 true
  have hP := prs_dn b
  have wsk := fun r => wr_skip r (b, !decide (b.take headB.length = headB)) hs0 8 true
  refine scall_of (n := 59) (ks := [0, 2, 3, 4, 5, 6, 7, 10, 33, 45, 56]) Tryz.func73 rfl rfl (Nat.le_of_ble_eq_true rfl) ?_
  refine sq3 ?_
  apply al; rfl; (exact zcT); refine freshT fun r2 h2 => ?_; repeat rcases h2 with ⟨_, h2⟩
  refine sq2 ?_
  refine sw_go (sgo_leb (r := r2) ssetT bor_md0) ?_
  refine sq26 ?_
  refine sq56 ?_
  refine sw_cond rfl (fun g1 => ?_) (fun g1 => ?_)
  · have hE : decM b = (md0, 4) := by unfold decM; rw [if_pos (by simp at g1; omega)]
    refine sq3 ?_
    refine z93 ?_
    apply stp; rfl; rfl; rfl; rfl; (exact sputT)
    refine sq0 ?_
    refine an ?_
    refine sw_go (sgo_leb (r := r2) ssetT bor_md0) ?_
    refine ctlT ?_
    apply aend; exact resT
    · exact ⟨by rw [hE]; rfl, rfl⟩
    · exact stleT
  have h80 : ¬ 8000 < b.length := by simp at g1; omega
  refine sq3 ?_
  apply al; rfl; (exact zcT); refine freshT fun r4 h4 => ?_; repeat rcases h4 with ⟨_, h4⟩
  refine sq4 ?_
  refine sw_go (sgo_leb (r := r4) ssetT bor_md0) ?_
  refine sq5 ?_
  refine z145 ?_
  refine puA Tryz.call93 (lib_hasPrefix b headB (by omega) (by decide) hlt (by decide)) rfl pargsT nofT ?_
  refine lo (lop_not (E rfl)) rfl ?_
  refine z93 ?_
  apply bx; rfl; rfl; (exact zcT); rfl; refine freshT fun r18 h18 => ?_; repeat rcases h18 with ⟨_, h18⟩
  refine sq37 ?_
  refine cw [(r18, .box 149 (rdr (b, !decide (b.take headB.length = headB))))] Tryz.call94 (wsk r18) rfl argsleT stleT ?_
  rintro _ σ' ⟨rfl, rfl⟩ h20
  apply rs_sto; exact nflT
  refine sq4 ?_
  rw [show skN (b, !decide (b.take headB.length = headB)) ((8 : Nat) : Int) true = skN (b, !decide (b.take 8 = headB)) 8 true from rfl]
  rw [show skN (b, !decide (b.take headB.length = headB)) 8 true = skN (b, !decide (b.take 8 = headB)) 8 true from rfl] at k0
  generalize skN (b, !decide (b.take 8 = headB)) 8 true = s0 at k0 hP ⊢
  refine lp (β := Md × St) (fun x => ⟨[(0, .ro 1 (b.map encU) .any), (2, .ptr r2 0), (4, .ptr r4 0), (5, .ptr r18 0)], [(r18, .box 149 (rdr x.2)), (r4, .box 33 (encMd x.1)), (r2, .box 33 (encMd md0))]⟩) (fun x => x.1.WO ∧ SOk x.2 ∧ DN x.1 x.2 = prsN b) (fun x => x.2.1.length) (md0, s0) sgoT ⟨wo0, k0, hP.symm⟩ ?_
  rintro ⟨m, ⟨l, bad⟩⟩ ⟨hwo, hs, hD⟩
  dsimp only at hwo hs hD ⊢
  unfold rdr
  dsimp only
  refine sq7 ?_
  refine sq38 ?_
  refine z14 ?_
  refine sq47 ?_
  refine sq89 ?_
  refine z130 ?_
  refine sq91 ?_
  refine sw_cond rfl (fun g6 => ?_) (fun g6 => ?_)
  · obtain rfl : bad = false := by cases bad with | false => rfl | true => simp at g6
    have hne : l ≠ [] := by intro e; subst e; simp at g6
    have wb := wr_byte r18 (l, false) hs
    have kb := by_ok (l, false) hs
    have wn := wr_num r18 _ kb
    have kn := nu_ok _ kb
    have hbl : (byN (l, false)).1 < 256 := by cases l with | nil => exact absurd rfl hne | cons x t => exact hs.2 x List.mem_cons_self
    have ws := wr_section r18 r4 (by (exact nqT)) _ kn m (byN (l, false)).1
    have hst := dn_step (m := m) (s := (l, false)) hne rfl
    have kw := se_wo (byN (l, false)).1 hwo kn
    have ks := se_ok (byN (l, false)).1 m kn
    refine sq7 ?_
    refine cw [(r18, .box 149 (rdr (l, false)))] Tryz.call95 wb rfl argsleT stleT ?_
    rintro _ σ' ⟨rfl, rfl⟩ h35
    apply rs_sto; exact nflT
    refine z44 ?_
    refine sq37 ?_
    refine cw [(r18, .box 149 (rdr (byN (l, false)).2))] Tryz.call96 wn rfl argsleT stleT ?_
    rintro _ σ' ⟨rfl, rfl⟩ h38
    apply rs_sto; exact nflT
    refine sq49 ?_
    refine cw [(r18, .box 149 (rdr (nuN (byN (l, false)).2).2)), (r4, .box 33 (encMd m))] Tryz.call97 ws rfl argsleT stleT ?_
    rintro _ σ' ⟨rfl, rfl⟩ h41
    apply rs_sto; exact nflT
    refine sq4 ?_
    refine ⟨seN (byN (l, false)).1 m (nuN (byN (l, false)).2).2, ⟨kw, ks, hst.1.symm.trans hD⟩, hst.2, ?_⟩
    exact sgoT
  have hz : DN m (l, bad) = (m, (l, bad)) := dn_stop (by cases bad with | true => simp | false => (cases l with | nil => rfl | cons x t => (simp at g6 <;> omega)))
  rw [hz] at hD
  refine sq7 ?_
  refine sq38 ?_
  refine sq4 ?_
  refine sw_cond rfl (fun g10 => ?_) (fun g10 => ?_)
  · have hE : decM b = (md0, 1) := by unfold decM; rw [if_neg h80, if_pos (by rw [← hD]; exact g10)]
    refine sq3 ?_
    refine z93 ?_
    apply stp; rfl; rfl; rfl; rfl; (exact sputT)
    refine sq0 ?_
    refine an ?_
    refine sw_go (sgo_leb (r := r2) ssetT bor_md0) ?_
    refine ctlT ?_
    apply aend; exact resT
    · exact ⟨by rw [hE]; rfl, rfl⟩
    · exact stleT
  refine ctlT ?_
  obtain ⟨ty, im, fn, tb, me, gl, ex, el, co, da⟩ := m
  refine rgT ?_
  refine z99 ?_
  refine clA Tryz.call72 (wasm_encode ⟨ty, im, fn, tb, me, gl, ex, el, co, da⟩ hwo) rfl bargsT noT ?_
  rintro _ σ' ⟨q48, rfl, rfl⟩ h48
  replace h48 := lnewT h48; repeat rcases h48 with ⟨_, h48⟩
  apply rs_sto; exact nflT
  refine fzv (j := 48) rfl sdelT (bor_own sgT (by simp)) ?_
  refine sq2 ?_
  have hB : (prsN b).2.2 = false := by rw [← hD]; exact g10
  have hM : (prsN b).1 = ⟨ty, im, fn, tb, me, gl, ex, el, co, da⟩ := by rw [← hD]
  have hbn : b ≠ [] := by intro e; rw [e, prs_nil] at hB; cases hB
  refine sq1 ?_
  refine ne rfl rfl rfl fun z hz _ => ?_
  refine sq10 ?_
  refine z109 ?_
  refine pugA rfl rfl Tryz.call98 (fun _ => (lib_bytesEqual (encB ⟨ty, im, fn, tb, me, gl, ex, el, co, da⟩) b (encB_lt hwo) hlt)) rfl pargsT nofT ?_
  refine z130 ?_
  refine z113 ?_
  refine sq4 ?_
  refine sw_cond rfl (fun g13 => ?_) (fun g13 => ?_)
  · have hE := dec_err h80 hB hM hz hbn g13
    refine sq3 ?_
    refine z93 ?_
    apply stp; rfl; rfl; rfl; rfl; (exact sputT)
    refine sq0 ?_
    refine an ?_
    refine sw_go (sgo_leb (r := r2) ssetT bor_md0) ?_
    refine ctlT ?_
    apply aend; exact resT
    · exact ⟨by rw [hE]; rfl, rfl⟩
    · exact stleT
  have hE := dec_fine h80 hB hM hbn g13
  refine sq3 ?_
  refine z99 ?_
  apply stp; rfl; rfl; rfl; rfl; (exact sputT)
  refine sq2 ?_
  apply aend; exact resT
  · exact ⟨by rw [hE]; rfl, rfl⟩
  · exact stleT
/-
  Package check: open, shut, dead, label, types, locals, globals.
-/
section
variable {r p q : Nat} {m : Md} {lv : AV}
theorem ck_open (hN : Nm r p q) (s : PS) (hs : s.cs.length ≤ 1000000) (op kd : Int) : SCall Tryz.prog 37 [.ptr r 0, .int .i64 op, .int .i64 kd] (ckS r p q m lv s) (fun _ σ => ∃ e, Nm r p e ∧ σ = ckS r p e m lv (openP s op kd)) := by
  obtain ⟨vs, zs, b⟩ := s
  obtain ⟨n1, n2, n3⟩ := hN
  dsimp only at hs
  refine scall_of (n := 23) (ks := [0, 1, 2]) Tryz.func37 rfl rfl (Nat.le_of_ble_eq_true rfl) ?_
  unfold ckS ckC
  dsimp only
  refine ctlT ?_
  refine rgD [(0, true), (1, true), (2, true), (3, true), (4, true), (5, true), (6, true), (7, true), (8, true), (9, true), (10, true), (11, true), (12, true), (13, false), (14, false), (15, true), (16, true), (17, false)] ?_
  refine dlo rfl (lop_move (E rfl)) rfl ?_
  refine sq32 ?_
  refine sq17 ?_
  refine sq32 ?_
  refine z78 ?_
  refine z94 ?_
  refine z97 ?_; refine freshT fun r19 h19 => ?_; repeat rcases h19 with ⟨_, h19⟩
  refine dapA rfl ((zs ++ [(⟨op, kd, vs.length, false⟩ : Ct)]).map encCt) (zs ++ [(⟨op, kd, vs.length, false⟩ : Ct)]).length ?_
  refine apnT fun r20 h20 => ?_; repeat rcases h20 with ⟨_, h20⟩
  refine z77 ?_
  refine z73 ?_
  refine z95 ?_
  refine sq68 ?_
  refine aend_n ?_
  apply aend; exact resT
  · exact ⟨r20, ⟨by (exact nqT), by (exact nqT), by (exact nqT)⟩, rfl⟩
  · exact stleT
theorem ck_shut (hN : Nm r p q) (s : PS) (h : s.Gd) : SCall Tryz.prog 40 [.ptr r 0] (ckS r p q m lv s) (fun y σ => y = .agg (encCt s.top) ∧ σ = ckS r p q m lv (shutP s)) := by
  have hd : shutP s = ⟨(popsP s (listP s.top.kd)).vs, (popsP s (listP s.top.kd)).cs.dropLast, (needP (popsP s (listP s.top.kd)) (((popsP s (listP s.top.kd)).vs.length : Int) == s.top.ht)).bad⟩ := rfl
  have hp := h.pops (listP s.top.kd)
  have hcs := pops_cs s (listP s.top.kd)
  rw [hd]
  obtain ⟨i, hi⟩ := h.cut
  generalize s.top = t at hi hcs hp ⊢
  have hpa := fun (hN : Nm r p q) => ck_popAll (m := m) (lv := lv) hN s h (listP t.kd) (by have := list_len t.kd; omega)
  generalize popsP s (listP t.kd) = s1 at hcs hp hpa ⊢
  have hbc := h.bc
  have hbv := h.bv
  have hbv1 := hp.bv
  obtain ⟨vs, zs, b⟩ := s
  obtain ⟨vs1, zs1, b1⟩ := s1
  dsimp only at hi hcs hbc hbv hbv1
  subst hi hcs
  rw [cs_len] at hbc
  obtain ⟨n1, n2, n3⟩ := hN
  have hel := own_last (l := i.map encCt) (x := encCt t) (n := i.length) (by simp)
  refine scall_of (n := 46) (ks := [0, 2, 3]) Tryz.func40 rfl rfl (Nat.le_of_ble_eq_true rfl) ?_
  unfold ckS ckC
  dsimp only
  rw [cs_len, cs_map]
  refine sq3 ?_
  apply al; rfl; (exact zcT); refine freshT fun r2 h2 => ?_; repeat rcases h2 with ⟨_, h2⟩
  refine sq4 ?_
  refine rgD [(0, true), (1, true), (2, true), (3, true), (4, true), (5, true), (6, true), (7, true), (8, true), (9, true), (10, true), (11, true), (12, false), (13, false)] ?_
  refine sq32 ?_
  refine sq32 ?_
  refine z78 ?_
  refine z82 ?_
  refine z56 ?_
  refine z126 ?_
  apply dal; rfl; infer_instance; rfl; (exact zcT); refine freshT fun r3 h3 => ?_; repeat rcases h3 with ⟨_, h3⟩
  refine z95 ?_
  refine deT ?_
  refine sq7 ?_
  refine sq11 ?_
  refine cw [] Tryz.call60 (check_list t.kd) rfl argsleT stleT ?_
  rintro _ σ' ⟨rfl, rfl⟩ h19
  apply rs_sto; exact nflT
  refine cw (ckS r p q m lv ⟨vs, i ++ [t], b⟩) Tryz.call61 (hpa ⟨n1, n2, n3⟩) rfl argsleT stleS ?_
  rintro _ σ' rfl h20
  unfold ckS ckC; (try dsimp only)
  apply rs_sto; exact nflT
  refine sq4 ?_
  refine rgD [(0, true), (1, true), (2, true), (3, true), (6, true), (7, true), (4, false), (5, true), (8, true), (9, false)] ?_
  refine dlo rfl (lop_move (E rfl)) rfl ?_
  refine sq14 ?_
  refine z73 ?_
  refine sq22 ?_
  first | refine dhl rfl (lop_load_ptr (E rfl) rfl sgT (fun _ => rfl)) rfl ?_ | refine dhl rfl (lop_load_ptr (E rfl) rfl sgT (fun _ => by assumption)) rfl ?_ | refine dhl rfl (lop_load_el (E rfl) rfl (fun hc => by first | rfl | exact get_map (by assumption) | assumption | exact get_map (at_bang (by omega))) (fun _ => rfl)) rfl ?_
  refine z78 ?_
  refine z79 ?_
  refine dcw (ckS r p q m lv ⟨vs1, i ++ [t], b1⟩) rfl Tryz.call58 (ck_need ⟨n1, n2, n3⟩ _ ((vs1.length : Int) == t.ht)) rfl argsleT stleS hbtS ?_
  rintro _ σ' rfl h30
  unfold ckS ckC; (try dsimp only)
  apply rd_sto; exact nflT
  refine sq68 ?_
  dsimp only [needP]
  rw [cs_len, cs_map]
  refine rgD [(0, true), (1, true), (2, true), (3, true), (4, true), (5, true), (6, true), (7, true), (8, true), (9, true), (10, true), (11, true), (12, true), (13, true), (14, false)] ?_
  refine dlo rfl (lop_move (E rfl)) rfl ?_
  refine sq32 ?_
  refine sq32 ?_
  refine z78 ?_
  refine z82 ?_
  refine z25 ?_
  refine z77 ?_
  refine z73 ?_
  refine z95 ?_
  refine sq68 ?_
  rw [last_len]
  refine sw_go (sgo_cut (o := q) i.length ssetT) ?_
  rw [show List.take i.length (i.map encCt ++ [encCt t]) = i.map encCt by rw [List.take_left' (by simp)]]
  rw [List.dropLast_concat]
  refine rgT ?_
  refine z99 ?_
  apply stp; rfl; rfl; rfl; rfl; (exact sputT)
  refine sq4 ?_
  apply aend; exact resT
  · exact ⟨rfl, rfl⟩
  · exact stleT
theorem ck_dead (hN : Nm r p q) (s : PS) (h : s.Gd) : SCall Tryz.prog 56 [.ptr r 0] (ckS r p q m lv s) (fun _ σ => σ = ckS r p q m lv (deadP s)) := by
  have hd : deadP s = ⟨s.vs.take s.top.ht, s.cs.dropLast ++ [⟨s.top.op, s.top.kd, s.top.ht, true⟩], s.bad⟩ := rfl
  rw [hd]
  obtain ⟨i, hi⟩ := h.cut
  have h0 := h.toOk0
  generalize s.top = t at hi ⊢
  have hbc := h.bc
  have hbv := h.bv
  obtain ⟨vs, zs, b⟩ := s
  dsimp only at hi hbc hbv
  subst hi
  rw [cs_len] at hbc
  obtain ⟨-, hh, -⟩ := h0.split
  obtain ⟨n1, n2, n3⟩ := hN
  have hel := own_last (l := i.map encCt) (x := encCt t) (n := i.length) (by simp)
  refine scall_of (n := 29) (ks := [0, 2]) Tryz.func56 rfl rfl (Nat.le_of_ble_eq_true rfl) ?_
  unfold ckS ckC
  dsimp only
  rw [cs_len, cs_map]
  refine ctlT ?_
  refine rgD [(0, true), (1, true), (2, true), (3, true), (4, true), (5, true), (6, true), (7, true), (8, true), (9, true), (10, true), (11, true)] ?_
  refine sq32 ?_
  refine sq32 ?_
  refine z78 ?_
  refine z82 ?_
  refine z56 ?_
  refine sq70 ?_
  refine rgD [(0, true), (1, true), (2, true), (3, true), (4, true), (5, true), (6, true), (7, true), (8, true), (9, true), (10, true), (11, true), (12, true), (13, false), (14, true), (15, true), (16, false)] ?_
  refine sq17 ?_
  refine sq32 ?_
  refine sq14 ?_
  refine dlo rfl (lop_field_ow (E rfl) rfl (by decide)) rfl ?_
  refine dlo rfl (lop_load_ow (E rfl) rfl sgT (fun _ => hel) (fun _ => rfl)) rfl ?_
  refine z25 ?_
  refine z77 ?_
  refine z73 ?_
  refine z95 ?_
  refine z77 ?_
  refine dlo rfl (lop_field_ow (E rfl) rfl (by decide)) rfl ?_
  apply dsto; rfl; infer_instance; rfl; rfl; rfl; rfl; (exact ssetT); (exact atT); (exact putT_); rfl; (exact hbtT)
  refine sq68 ?_
  rw [set_lastA (by simp)]
  refine aend_gn (sgo_cut (o := p) t.ht ssetT) ?_
  rw [← List.map_take, List.dropLast_concat, cs_len, cs_map, show t.ht - 0 = (vs.take t.ht).length by rw [List.length_take]; omega]
  refine aend_n ?_
  apply aend; exact resT
  · rfl
  · exact stleT
theorem ck_label (hN : Nm r p q) (s : PS) (hs : s.cs.length ≤ 1000000) (n : Int) (hn : 0 ≤ n) : SCall Tryz.prog 62 [.ptr r 0, .int .i64 n] (ckS r p q m lv s) (fun y σ => y = .ro 1 ((labelP s n).1.map encI) .any ∧ σ = ckS r p q m lv (labelP s n).2) := by
  obtain ⟨vs, zs, b⟩ := s
  obtain ⟨n1, n2, n3⟩ := hN
  dsimp only at hs
  refine scall_of (n := 36) (ks := [0, 1, 4, 5, 12, 32]) Tryz.func62 rfl rfl (Nat.le_of_ble_eq_true rfl) ?_
  unfold ckS ckC
  dsimp only
  refine sq52 ?_
  refine sq38 ?_
  refine z14 ?_
  refine sq102 ?_
  refine sw_cond rfl (fun g1 => ?_) (fun g1 => ?_)
  · have hP : labelP ⟨vs, zs, b⟩ n = ([], ⟨vs, zs, true⟩) := if_pos g1
    rw [hP]
    refine sq90 ?_
    apply stp; rfl; rfl; rfl; rfl; (exact sputT)
    refine sq75 ?_
    refine sq0 ?_
    refine an ?_
    refine sw_go (sgo_vle (j := 4) (y := .ro 1 (([] : List Int).map encI) .any) rfl VLe.empty) ?_
    refine ctlT ?_
    apply aend; exact resT
    · exact ⟨rfl, rfl⟩
    · exact stleT
  have hlt : n < zs.length := by simp at g1; omega
  obtain ⟨t, ht⟩ : ∃ t, zs[zs.length - 1 - n.toNat]? = some t := ⟨_, List.getElem?_eq_getElem (by omega)⟩
  have hP : labelP ⟨vs, zs, b⟩ n = (if (t.op == 3) = true then [] else listP t.kd, ⟨vs, zs, b⟩) := by unfold labelP; rw [if_neg (by simpa using g1)]; dsimp only; rw [List.getD_eq_getElem?_getD, ht]; rfl
  rw [hP]
  have hel : (zs.map encCt)[(((zs.length : Nat) : Int) - 1 - n).toNat]? = some (encCt t) := by rw [show (((zs.length : Nat) : Int) - 1 - n).toNat = zs.length - 1 - n.toNat by omega, List.getElem?_map, ht]; rfl
  refine ctlT ?_
  refine rgD [(0, true), (1, true), (2, true), (3, true), (4, true), (5, true), (6, true), (7, true), (8, true), (9, true), (10, true), (11, true), (12, true), (13, true), (14, false), (15, false)] ?_
  refine sq32 ?_
  refine sq32 ?_
  refine z78 ?_
  refine z82 ?_
  refine dlo rfl (lop_move (E rfl)) rfl ?_
  refine z82 ?_
  refine z56 ?_
  refine z126 ?_
  apply dal; rfl; infer_instance; rfl; (exact zcT); refine freshT fun r5 h5 => ?_; repeat rcases h5 with ⟨_, h5⟩
  refine z95 ?_
  refine deT ?_
  refine sq63 ?_
  refine sq34 ?_
  refine sw_cond rfl (fun g5 => ?_) (fun g5 => ?_)
  · rw [if_pos g5]
    refine sq3 ?_
    refine sq0 ?_
    refine an ?_
    refine sw_go (sgo_vle (j := 4) (y := .ro 1 (([] : List Int).map encI) .any) rfl VLe.empty) ?_
    refine ctlT ?_
    apply aend; exact resT
    · exact ⟨rfl, rfl⟩
    · exact stleT
  rw [if_neg (by simp [g5])]
  refine sq63 ?_
  refine cw [] Tryz.call60 (check_list t.kd) rfl argsleT stleT ?_
  rintro _ σ' ⟨rfl, rfl⟩ h35
  apply rs_sto; exact nflT
  refine sq2 ?_
  apply aend; exact resT
  · exact ⟨rfl, rfl⟩
  · exact stleT
theorem ck_typeOf (hN : Nm r p q) (s : PS) (n : Int) : SCall Tryz.prog 35 [.ptr r 0, .int .i64 n] (ckS r p q m lv s) (fun y σ => y = .tup [.agg (encFT (typeOfP m n).1), .bool (typeOfP m n).2] ∧ σ = ckS r p q m lv s) := by
  obtain ⟨vs, zs, b⟩ := s
  obtain ⟨n1, n2, n3⟩ := hN
  refine scall_of (n := 27) (ks := [0, 1, 4, 5, 17]) Tryz.func35 rfl rfl (Nat.le_of_ble_eq_true rfl) ?_
  unfold ckS ckC
  dsimp only
  refine sq3 ?_
  apply al; rfl; (exact zcT); refine freshT fun r4 h4 => ?_; repeat rcases h4 with ⟨_, h4⟩
  refine sq37 ?_
  refine sq87 ?_
  refine z109 ?_
  refine sq80 ?_
  refine z142 ?_
  refine z115 ?_
  refine z124 ?_
  first | refine ln rfl rfl rfl rfl ?_ | (refine gy rfl rfl ?_; refine lo (lop_geq (by first | exact W rfl id | exact E rfl) (by first | exact W rfl id | exact E rfl)) rfl ?_) | refine lg rfl rfl (lop_geq (by first | exact W rfl id | exact E rfl) (by first | exact W rfl id | exact E rfl)) rfl ?_
  refine z113 ?_
  refine sq4 ?_
  refine sw_cond rfl (fun g1 => ?_) (fun g1 => ?_)
  · have hP : typeOfP m n = (ft0, false) := if_pos g1
    rw [hP]
    refine sq3 ?_
    refine z93 ?_
    apply stp; rfl; rfl; rfl; rfl; (exact sputT)
    refine sq0 ?_
    refine an ?_
    refine sw_go (sgo_leb (r := r4) (cs' := encFT ft0) ssetT (.cons (.le VLe.empty) (.cons (.le VLe.empty) .nil))) ?_
    refine ctlT ?_
    apply aend; exact resT
    · exact ⟨rfl, rfl⟩
    · exact stleT
  have hlt : 0 ≤ n ∧ n < m.ty.length := by constructor <;> (apply Int.not_lt.1; intro hc; apply Bool.false_ne_true; rw [← g1]; simp; omega)
  obtain ⟨t, ht⟩ : ∃ t, m.ty[n.toNat]? = some t := ⟨_, List.getElem?_eq_getElem (by omega)⟩
  have hP : typeOfP m n = (t, true) := by unfold typeOfP; rw [if_neg (by simpa using g1)]; rw [List.getD_eq_getElem?_getD, ht]; rfl
  rw [hP]
  refine sq90 ?_
  refine sq11 ?_
  refine sq88 ?_
  apply stp; rfl; rfl; rfl; rfl; (exact sputT)
  refine sq2 ?_
  apply aend; exact resT
  · exact ⟨rfl, rfl⟩
  · exact stleT
theorem ck_local {ls : List Int} (hN : Nm r p q) (s : PS) (n : Int) (hn : 0 ≤ n) : SCall Tryz.prog 66 [.ptr r 0, .int .i64 n] (ckS r p q m (.ro 1 (ls.map encI) .any) s) (fun y σ => y = .int .i64 (localP ls s n).1 ∧ σ = ckS r p q m (.ro 1 (ls.map encI) .any) (localP ls s n).2) := by
  obtain ⟨vs, zs, b⟩ := s
  obtain ⟨n1, n2, n3⟩ := hN
  refine scall_of (n := 22) (ks := [0, 1, 4, 11]) Tryz.func66 rfl rfl (Nat.le_of_ble_eq_true rfl) ?_
  unfold ckS ckC
  dsimp only
  refine sq52 ?_
  refine sq38 ?_
  refine z14 ?_
  refine sq102 ?_
  refine sw_cond rfl (fun g1 => ?_) (fun g1 => ?_)
  · have hP : localP ls ⟨vs, zs, b⟩ n = (0, ⟨vs, zs, true⟩) := if_pos g1
    rw [hP]
    refine sq90 ?_
    apply stp; rfl; rfl; rfl; rfl; (exact sputT)
    refine sq79 ?_
    apply aend; exact resT
    · exact ⟨rfl, rfl⟩
    · exact stleT
  obtain ⟨t, ht⟩ : ∃ t, ls[n.toNat]? = some t := ⟨_, List.getElem?_eq_getElem (by simp at g1; omega)⟩
  have hlt : n < ls.length := by simp at g1; omega
  have hP : localP ls ⟨vs, zs, b⟩ n = (t, ⟨vs, zs, b⟩) := by unfold localP; rw [if_neg (by simpa using g1)]; rw [List.getD_eq_getElem?_getD, ht]; rfl
  rw [hP]
  refine sq7 ?_
  refine sq38 ?_
  refine sq30 ?_
  refine z16 ?_
  refine sq2 ?_
  apply aend; exact resT
  · exact ⟨rfl, rfl⟩
  · exact stleT
theorem ck_global (hN : Nm r p q) (s : PS) (n : Int) (hn : 0 ≤ n) : SCall Tryz.prog 67 [.ptr r 0, .int .i64 n] (ckS r p q m lv s) (fun y σ => y = .agg (encGl (globalP m s n).1) ∧ σ = ckS r p q m lv (globalP m s n).2) := by
  obtain ⟨vs, zs, b⟩ := s
  obtain ⟨n1, n2, n3⟩ := hN
  refine scall_of (n := 25) (ks := [0, 1, 4, 12]) Tryz.func67 rfl rfl (Nat.le_of_ble_eq_true rfl) ?_
  unfold ckS ckC
  dsimp only
  refine sq3 ?_
  apply al; rfl; (exact zcT); refine freshT fun r4 h4 => ?_; repeat rcases h4 with ⟨_, h4⟩
  refine sq49 ?_
  refine sq39 ?_
  refine sq11 ?_
  refine z14 ?_
  refine sq102 ?_
  refine sw_cond rfl (fun g1 => ?_) (fun g1 => ?_)
  · have hP : globalP m ⟨vs, zs, b⟩ n = (gl0, ⟨vs, zs, true⟩) := if_pos g1
    rw [hP]
    refine sq90 ?_
    apply stp; rfl; rfl; rfl; rfl; (exact sputT)
    refine sq75 ?_
    refine z93 ?_
    apply stp; rfl; rfl; rfl; rfl; (exact sputT)
    refine sq4 ?_
    apply aend; exact resT
    · exact ⟨rfl, rfl⟩
    · exact stleT
  obtain ⟨t, ht⟩ : ∃ t, m.gl[n.toNat]? = some t := ⟨_, List.getElem?_eq_getElem (by simp at g1; omega)⟩
  have hlt : n < m.gl.length := by simp at g1; omega
  have hP : globalP m ⟨vs, zs, b⟩ n = (t, ⟨vs, zs, b⟩) := by unfold globalP; rw [if_neg (by simpa using g1)]; rw [List.getD_eq_getElem?_getD, ht]; rfl
  rw [hP]
  refine sq90 ?_
  refine sq11 ?_
  refine sq88 ?_
  apply stp; rfl; rfl; rfl; rfl; (exact sputT)
  refine sq4 ?_
  apply aend; exact resT
  · exact ⟨rfl, rfl⟩
  · exact stleT
end
/-
  Package check: function types, calls, access, a table of branches.
-/
section
variable {r p q : Nat} {m : Md} {lv : AV}
theorem ck_funcType (hN : Nm r p q) (s : PS) (hi : m.im.length ≤ 1000000) (f : Int) (hf : 0 ≤ f) (hf2 : f ≤ 9223372036854775807) : SCall Tryz.prog 65 [.ptr r 0, .int .i64 f] (ckS r p q m lv s) (fun y σ => y = .tup [.agg (encFT (typeOfP m (fnTyP m f)).1), .bool (typeOfP m (fnTyP m f)).2] ∧ σ = ckS r p q m lv s) := by
  obtain ⟨vs, zs, b⟩ := s
  have hN0 := hN
  obtain ⟨n1, n2, n3⟩ := hN
  refine scall_of (n := 51) (ks := [0, 1, 4, 5, 6, 7, 16, 35]) Tryz.func65 rfl rfl (Nat.le_of_ble_eq_true rfl) ?_
  unfold ckS ckC
  dsimp only
  refine sq3 ?_
  apply al; rfl; (exact zcT); refine freshT fun r4 h4 => ?_; repeat rcases h4 with ⟨_, h4⟩
  refine sq25 ?_
  refine sq37 ?_
  refine sq39 ?_
  refine sq11 ?_
  refine z14 ?_
  refine sq64 ?_
  refine sq13 ?_
  refine sw_cond rfl (fun g3 => ?_) (fun g3 => ?_)
  · have hlt : f < m.im.length := by simpa using g3
    obtain ⟨x, hx⟩ : ∃ x, m.im[f.toNat]? = some x := ⟨_, List.getElem?_eq_getElem (by omega)⟩
    have hP : fnTyP m f = x.ty := by unfold fnTyP; rw [if_pos g3, List.getD_eq_getElem?_getD, hx]; rfl
    rw [hP]
    refine sq90 ?_
    refine sq11 ?_
    refine sq30 ?_
    refine z117 ?_
    refine z16 ?_
    refine sq64 ?_
    refine cw (ckS r p q m lv ⟨vs, zs, b⟩) Tryz.call35 (ck_typeOf hN0 _ _) rfl argsleT stleS ?_
    rintro _ σ' ⟨rfl, rfl⟩ h48
    unfold ckS ckC; (try dsimp only)
    apply rs_sto; exact nflT
    refine sq16 ?_
    apply stp; rfl; rfl; rfl; rfl; (exact sputT)
    refine sq2 ?_
    apply aend; exact resT
    · exact ⟨rfl, rfl⟩
    · exact stleT
  have hge : ¬ f < m.im.length := by simpa using g3
  refine sq18 ?_
  refine z19 ?_
  refine lo (lop_move (E rfl)) rfl ?_
  refine sq39 ?_
  refine sq11 ?_
  refine z14 ?_
  refine sq13 ?_
  refine sw_cond rfl (fun g5 => ?_) (fun g5 => ?_)
  · have hlt : f - m.im.length < m.fn.length := by simpa using g5
    obtain ⟨x, hx⟩ : ∃ x, m.fn[(f - m.im.length).toNat]? = some x := ⟨_, List.getElem?_eq_getElem (by omega)⟩
    have hP : fnTyP m f = x := by unfold fnTyP; rw [if_neg (by simpa using g3), if_pos g5, List.getD_eq_getElem?_getD, hx]; rfl
    rw [hP]
    refine sq90 ?_
    refine sq11 ?_
    refine sq51 ?_
    refine z19 ?_
    refine sq76 ?_
    refine sq64 ?_
    refine cw (ckS r p q m lv ⟨vs, zs, b⟩) Tryz.call35 (ck_typeOf hN0 _ _) rfl argsleT stleS ?_
    rintro _ σ' ⟨rfl, rfl⟩ h48
    unfold ckS ckC; (try dsimp only)
    apply rs_sto; exact nflT
    refine sq16 ?_
    apply stp; rfl; rfl; rfl; rfl; (exact sputT)
    refine sq2 ?_
    apply aend; exact resT
    · exact ⟨rfl, rfl⟩
    · exact stleT
  have hP : fnTyP m f = -1 := by unfold fnTyP; rw [if_neg (by simpa using g3), if_neg (by simpa using g5)]
  rw [hP]
  refine sq18 ?_
  refine cw (ckS r p q m lv ⟨vs, zs, b⟩) Tryz.call35 (ck_typeOf hN0 _ _) rfl argsleT stleS ?_
  rintro _ σ' ⟨rfl, rfl⟩ h48
  unfold ckS ckC; (try dsimp only)
  apply rs_sto; exact nflT
  refine sq16 ?_
  apply stp; rfl; rfl; rfl; rfl; (exact sputT)
  refine sq2 ?_
  apply aend; exact resT
  · exact ⟨rfl, rfl⟩
  · exact stleT
theorem ck_calls (hN : Nm r p q) (s : PS) (h : s.Gd) (t : FT) (ht : t.Sm) (ok : Bool) : SCall Tryz.prog 64 [.ptr r 0, .agg (encFT t), .bool ok] (ckS r p q m lv s) (fun _ σ => ∃ e, Nm r e q ∧ σ = ckS r e q m lv (callsP s t ok)) := by
  obtain ⟨pr, rs⟩ := t
  obtain ⟨ht1, ht2⟩ := ht
  dsimp only at ht1 ht2
  have hN0 := hN
  obtain ⟨n1, n2, n3⟩ := hN
  have h1 := h.need ok
  have h2 := h1.pops pr
  refine scall_of (n := 17) (ks := [0, 1, 2, 4]) Tryz.func64 rfl rfl (Nat.le_of_ble_eq_true rfl) ?_
  unfold ckS ckC
  (try dsimp only)
  refine sq3 ?_
  apply bx; rfl; rfl; (exact zcT); rfl; refine freshT fun r4 h4 => ?_; repeat rcases h4 with ⟨_, h4⟩
  refine sq49 ?_
  refine cw (ckS r p q m lv s) Tryz.call58 (ck_need hN0 s ok) rfl argsleT stleS ?_
  rintro _ σ' rfl h8
  unfold ckS ckC; (try dsimp only)
  apply rs_sto; exact nflT
  refine sq27 ?_
  refine sq11 ?_
  refine cw (ckS r p q m lv (needP s ok)) Tryz.call61 (ck_popAll hN0 _ h1 pr (by omega)) rfl argsleT stleS ?_
  rintro _ σ' rfl h12
  unfold ckS ckC; (try dsimp only)
  apply rs_sto; exact nflT
  refine sq27 ?_
  refine sq11 ?_
  refine cw (ckS r p q m lv (popsP (needP s ok) pr)) Tryz.call59 (ck_push hN0 _ h2.bv rs (by omega)) rfl argsleT stleS ?_
  rintro _ σ' ⟨e, hE, rfl⟩ h16
  unfold ckS ckC; (try dsimp only)
  obtain ⟨e1, e2, e3⟩ := id hE
  apply rs_sto; exact nflT
  refine sq4 ?_
  refine aend_n ?_
  apply aend; exact resT
  · exact ⟨e, hE, rfl⟩
  · exact stleT
theorem ck_access (hN : Nm r p q) (s : PS) (h : s.Gd) (x : Ins) (al : Int) (tk mk : List Int) (ht : tk.length ≤ 1000) (hm : mk.length ≤ 1000) : SCall Tryz.prog 68 [.ptr r 0, .agg (iv .any x), .int .i64 al, .ro 1 (tk.map encI) .any, .ro 1 (mk.map encI) .any] (ckS r p q m lv s) (fun _ σ => ∃ e, Nm r e q ∧ σ = ckS r e q m lv (accessP m s x al tk mk)) := by
  have hN0 := hN
  obtain ⟨n1, n2, n3⟩ := hN
  have h1 := h.need (if m.me.has = true then decide (x.a ≤ al) else false)
  have h2 := h1.pops tk
  unfold iv
  refine scall_of (n := 30) (ks := [0, 1, 2, 3, 4, 6]) Tryz.func68 rfl rfl (Nat.le_of_ble_eq_true rfl) ?_
  unfold ckS ckC
  (try dsimp only)
  refine sq3 ?_
  apply bx; rfl; rfl; (exact zcT); rfl; refine freshT fun r6 h6 => ?_; repeat rcases h6 with ⟨_, h6⟩
  refine sq49 ?_
  refine sq39 ?_
  refine z59 ?_
  refine sq11 ?_
  refine sq50 ?_
  refine z109 ?_
  refine z132 ?_
  refine z68 ?_
  refine cw (ckS r p q m lv s) Tryz.call58 (ck_need hN0 s (if m.me.has = true then decide (x.a ≤ al) else false)) rfl argsleT stleS ?_
  rintro _ σ' rfl h23
  unfold ckS ckC; (try dsimp only)
  apply rs_sto; exact nflT
  refine sq49 ?_
  refine cw (ckS r p q m lv (needP s (if m.me.has = true then decide (x.a ≤ al) else false))) Tryz.call61 (ck_popAll hN0 _ h1 tk (by omega)) rfl argsleT stleS ?_
  rintro _ σ' rfl h26
  unfold ckS ckC; (try dsimp only)
  apply rs_sto; exact nflT
  refine sq49 ?_
  refine cw (ckS r p q m lv (popsP (needP s (if m.me.has = true then decide (x.a ≤ al) else false)) tk)) Tryz.call59 (ck_push hN0 _ h2.bv mk hm) rfl argsleT stleS ?_
  rintro _ σ' ⟨e, hE, rfl⟩ h29
  unfold ckS ckC; (try dsimp only)
  obtain ⟨e1, e2, e3⟩ := id hE
  apply rs_sto; exact nflT
  refine sq4 ?_
  refine aend_n ?_
  apply aend; exact resT
  · exact ⟨e, hE, rfl⟩
  · exact stleT
theorem PS.Gd.label {s : PS} (h : s.Gd) (n : Int) : (labelP s n).2.Gd := ⟨h.toOk.label n, by rw [label_vs]; exact h.bv, by rw [label_cs]; exact h.bc⟩
theorem PS.Gd.tabs {s : PS} (h : s.Gd) (w l : List Int) : (l.foldl (tabP w) s).Gd := by
  obtain ⟨h1, h2, h3⟩ := tabs_cs w l s
  exact ⟨h3 h.toOk, by rw [h2]; exact h.bv, by rw [h1]; exact h.bc⟩
theorem two_of {a b : List Int} (ha : a.length ≤ 1) (hb : b.length ≤ 1) : (a = [] ∧ b = []) ∨ (a = [] ∧ ∃ v, b = [v]) ∨ ((∃ g, a = [g]) ∧ b = []) ∨ ∃ g v, a = [g] ∧ b = [v] := by
  match a, b, ha, hb with
  | [], [], _, _ => exact .inl ⟨rfl, rfl⟩
  | [], [v], _, _ => exact .inr (.inl ⟨rfl, v, rfl⟩)
  | [g], [], _, _ => exact .inr (.inr (.inl ⟨⟨g, rfl⟩, rfl⟩))
  | [g], [v], _, _ => exact .inr (.inr (.inr ⟨g, v, rfl, rfl⟩))
theorem tab_next {w l : List Int} {s : PS} {j : Nat} {n : Int} (h : l[j]? = some n) : (l.take (j + 1)).foldl (tabP w) s = needP (labelP ((l.take j).foldl (tabP w) s) n).2 (eq1 (labelP ((l.take j).foldl (tabP w) s) n).1 w) := by
  rw [List.take_add_one, h, List.foldl_append]; rfl
theorem ck_table (hN : Nm r p q) (s : PS) (h : s.Gd) (x : Ins) (ha : 0 ≤ x.a) (hl : ∀ n ∈ x.l, 0 ≤ n) (hll : x.l.length ≤ 1000000) : SCall Tryz.prog 63 [.ptr r 0, .agg (iv .any x)] (ckS r p q m lv s) (fun _ σ => σ = ckS r p q m lv (tableP s x)) := by
  have hN0 := hN
  obtain ⟨n1, n2, n3⟩ := hN
  have h1 := h.pop 1
  have h2 := h1.label x.a
  have hw := label_len (popP s 1).2 x.a
  have hT : tableP s x = deadP (popsP (x.l.foldl (tabP (labelP (popP s 1).2 x.a).1) (labelP (popP s 1).2 x.a).2) (labelP (popP s 1).2 x.a).1) := rfl
  rw [hT]
  have cl := ck_label (m := m) (lv := lv) hN0 (popP s 1).2 h1.bc x.a ha
  generalize (labelP (popP s 1).2 x.a).2 = s2 at h2 cl ⊢
  generalize (labelP (popP s 1).2 x.a).1 = w at hw cl ⊢
  obtain ⟨xo, xa, xb, xl⟩ := x
  dsimp only at ha hl hll cl ⊢
  unfold iv
  refine scall_of (n := 51) (ks := [0, 1, 3, 4, 6, 7, 15, 16, 17, 18]) Tryz.func63 rfl rfl (Nat.le_of_ble_eq_true rfl) ?_
  unfold ckS ckC
  (try dsimp only)
  refine sq3 ?_
  apply bx; rfl; rfl; (exact zcT); rfl; refine freshT fun r3 h3 => ?_; repeat rcases h3 with ⟨_, h3⟩
  refine sq27 ?_
  refine cw (ckS r p q m lv s) Tryz.call57 (ck_pop hN0 s h 1) rfl argsleT stleS ?_
  rintro _ σ' ⟨rfl, rfl⟩ h9
  unfold ckS ckC; (try dsimp only)
  apply rs_sto; exact nflT
  refine sq27 ?_
  refine sq11 ?_
  refine cw (ckS r p q m lv (popP s 1).2) Tryz.call62 cl rfl argsleT stleS ?_
  rintro _ σ' ⟨rfl, rfl⟩ h13
  unfold ckS ckC; (try dsimp only)
  apply rs_sto; exact nflT
  refine sq41 ?_
  refine sq96 ?_
  refine lp (β := Nat) (fun j => ⟨[(0, .ptr r 0), (3, .ptr r3 0), (4, .ro 1 (w.map encI) .any), (15, .ro 1 (xl.map encI) .any), (16, .int .i64 xl.length), (17, .int .i64 j)], (r3, .box 45 [.int .i64 xo, .int .i64 xa, .int .i64 xb, .ro 1 (xl.map encI) .any]) :: ckS r p q m lv ((xl.take j).foldl (tabP w) s2)⟩) (fun j => j ≤ xl.length) (fun j => xl.length - j) 0 (by unfold ckS ckC; (try dsimp only); (exact sgoT)) (Nat.zero_le _) ?_
  intro j hj
  (try dsimp only)
  have hS := h2.tabs w (xl.take j)
  refine sq40 ?_
  refine sw_cond rfl (fun g4 => ?_) (fun g4 => ?_)
  · obtain ⟨n, hn⟩ : ∃ n, xl[j]? = some n := ⟨_, List.getElem?_eq_getElem (by simp at g4; omega)⟩
    have hlt : j < xl.length := (List.getElem?_eq_some_iff.1 hn).1
    have hn0 := hl n (List.mem_of_getElem? hn)
    have hnx := tab_next (w := w) (s := s2) hn
    generalize (xl.take j).foldl (tabP w) s2 = S at hS hnx ⊢
    unfold ckS ckC
    (try dsimp only)
    refine sq3 ?_
    refine sq76 ?_
    refine sq64 ?_
    refine cw (ckS r p q m lv S) Tryz.call62 (ck_label hN0 S hS.bc n hn0) rfl argsleT stleS ?_
    rintro _ σ' ⟨rfl, rfl⟩ h23
    unfold ckS ckC; (try dsimp only)
    apply rs_sto; exact nflT
    refine sq2 ?_
    obtain ⟨ea, eb⟩ | ⟨ea, v, eb⟩ | ⟨⟨g, ea⟩, eb⟩ | ⟨g, v, ea, eb⟩ := two_of (label_len S n) hw
    · rw [ea]; subst eb; rw [ea, show eq1 [] [] = true from rfl] at hnx
      refine rgD [(0, true), (1, true), (2, true), (3, true), (4, true), (5, true), (6, true), (7, true), (8, true), (9, true), (10, true), (11, true), (12, true), (13, true), (14, true), (15, true), (16, true), (17, true), (18, true), (19, true), (20, false)] ?_
      refine sq17 ?_
      refine sq100 ?_
      refine z78 ?_
      refine z79 ?_
      rw [show ((([] : List Int).length : Int) == (([] : List Int).length : Int)) = true from rfl]
      refine dlo rfl (lop_move (E rfl)) rfl ?_
      refine z156 ?_
      first | refine dln rfl rfl rfl rfl rfl ?_ | (first | refine dly rfl rfl rfl (lop_len_map (by first | exact W rfl id | exact E rfl)) rfl ?_ | refine dly rfl rfl rfl (lop_len_ro (by first | exact W rfl id | exact E rfl)) rfl ?_ | refine dly rfl rfl rfl (lop_len_own (by first | exact W rfl id | exact E rfl)) rfl ?_) | refine dlg rfl rfl rfl (lop_len_map (by first | exact W rfl id | exact E rfl)) rfl ?_ | refine dlg rfl rfl rfl (lop_len_ro (by first | exact W rfl id | exact E rfl)) rfl ?_ | refine dlg rfl rfl rfl (lop_len_own (by first | exact W rfl id | exact E rfl)) rfl ?_
      first | refine dln rfl rfl rfl rfl rfl ?_ | (refine dly rfl rfl rfl (lop_eql (by first | exact W rfl id | exact E rfl) (E rfl)) rfl ?_) | refine dlg rfl rfl rfl (lop_eql (by first | exact W rfl id | exact E rfl) (E rfl)) rfl ?_
      rw [show ((([] : List Int).length : Int) == 0) = true from rfl]
      first | refine dln rfl rfl rfl rfl rfl ?_ | (refine dly rfl rfl rfl (lop_move (by first | exact W rfl id | exact E rfl)) rfl ?_) | refine dlg rfl rfl rfl (lop_move (by first | exact W rfl id | exact E rfl)) rfl ?_
      first | refine dln rfl rfl rfl rfl rfl ?_ | (refine dly rfl rfl rfl (lop_move (E rfl)) rfl ?_) | refine dlg rfl rfl rfl (lop_move (E rfl)) rfl ?_ | refine dlw rfl rfl rfl (lop_move (E rfl)) rfl ?_ | refine dlw rfl rfl rfl (lop_no (v := .bool false)) rfl ?_
      first
        | refine dln rfl rfl rfl rfl rfl ?_
        | (
          first
           | refine dly rfl rfl rfl (lop_index_ro (by
            first
             | exact W rfl id
             | exact E rfl) (E rfl) (fun hc => by (simp only [List.length_map]; omega))) rfl ?_
           | refine dly rfl rfl rfl (lop_index_own0 (by
            first
             | exact W rfl id
             | exact E rfl) sgT (E rfl) (fun hc => by omega)) rfl ?_
           | refine dly rfl rfl rfl (lop_index_own (by
            first
             | exact W rfl id
             | exact E rfl) sgT (E rfl) (fun hc => by omega)) rfl ?_)
        | refine dlg rfl rfl rfl (lop_index_ro (by
           first
            | exact W rfl (by
            first
             | exact id
             | simp)
            | exact E rfl) (E rfl) (fun hc => by (try simp at hc) <;> (simp only [List.length_map]; omega))) rfl ?_
        | refine dlg rfl rfl rfl (lop_index_own0 (by
           first
            | exact W rfl (by
            first
             | exact id
             | simp)
            | exact E rfl) sgT (E rfl) (fun hc => by (try simp at hc) <;> omega)) rfl ?_
        | refine dlg rfl rfl rfl (lop_index_own (by
           first
            | exact W rfl (by
            first
             | exact id
             | simp)
            | exact E rfl) sgT (E rfl) (fun hc => by (try simp at hc) <;> omega)) rfl ?_
        | refine dlw rfl rfl rfl (lop_index_ro (by
           first
            | exact W rfl (by
            first
             | exact id
             | simp)
            | exact E rfl) (E rfl) (fun hc => by (try simp at hc) <;> (simp only [List.length_map]; omega))) rfl ?_
        | refine dlw rfl rfl rfl (lop_index_own0 (by
           first
            | exact W rfl (by
            first
             | exact id
             | simp)
            | exact E rfl) sgT (E rfl) (fun hc => by (try simp at hc) <;> omega)) rfl ?_
        | refine dlw rfl rfl rfl (lop_index_own (by
           first
            | exact W rfl (by
            first
             | exact id
             | simp)
            | exact E rfl) sgT (E rfl) (fun hc => by (try simp at hc) <;> omega)) rfl ?_
        | refine dlw rfl rfl rfl (lop_no (v := .bool false)) rfl ?_
      first
        | refine dln rfl rfl rfl rfl rfl ?_
        | (
          first
           | refine dly rfl rfl rfl (lop_load_el (by
            first
             | exact W rfl id
             | exact E rfl) rfl (fun hc => by
            first
             | rfl
             | exact get_map (by assumption)
             | assumption
             | exact get_map (at_bang (by omega))) (fun _ => rfl)) rfl ?_
           | refine dly rfl rfl rfl (lop_load_ow (by
            first
             | exact W rfl id
             | exact E rfl) rfl sgT (fun hc => by
            first
             | rfl
             | exact get_map (by assumption)
             | assumption
             | exact get_map (at_bang (by omega))) (fun _ => rfl)) rfl ?_)
        | refine dlg rfl rfl rfl (lop_load_el (by
           first
            | exact W rfl (by
            first
             | exact id
             | simp)
            | exact E rfl) rfl (fun hc => by
           first
            | rfl
            | exact get_map (by assumption)
            | assumption
            | exact get_map (at_bang (by (try simp at hc) <;> omega))) (fun _ => rfl)) rfl ?_
        | refine dlg rfl rfl rfl (lop_load_ow (by
           first
            | exact W rfl (by
            first
             | exact id
             | simp)
            | exact E rfl) rfl sgT (fun hc => by
           first
            | rfl
            | exact get_map (by assumption)
            | assumption
            | exact get_map (at_bang (by (try simp at hc) <;> omega))) (fun _ => rfl)) rfl ?_
        | refine dlw rfl rfl rfl (lop_load_el (by
           first
            | exact W rfl (by
            first
             | exact id
             | simp)
            | exact E rfl) rfl (fun hc => by
           first
            | rfl
            | exact get_map (by assumption)
            | assumption
            | exact get_map (at_bang (by (try simp at hc) <;> omega))) (fun _ => rfl)) rfl ?_
        | refine dlw rfl rfl rfl (lop_load_ow (by
           first
            | exact W rfl (by
            first
             | exact id
             | simp)
            | exact E rfl) rfl sgT (fun hc => by
           first
            | rfl
            | exact get_map (by assumption)
            | assumption
            | exact get_map (at_bang (by (try simp at hc) <;> omega))) (fun _ => rfl)) rfl ?_
        | refine dlw rfl rfl rfl (lop_no (v := .bool false)) rfl ?_
      first | refine dln rfl rfl rfl rfl rfl ?_ | (refine dly rfl rfl rfl (lop_move (E rfl)) rfl ?_) | refine dlg rfl rfl rfl (lop_move (E rfl)) rfl ?_ | refine dlw rfl rfl rfl (lop_move (E rfl)) rfl ?_ | refine dlw rfl rfl rfl (lop_no (v := .bool false)) rfl ?_
      first
        | refine dln rfl rfl rfl rfl rfl ?_
        | (
          first
           | refine dly rfl rfl rfl (lop_index_ro (by
            first
             | exact W rfl id
             | exact E rfl) (E rfl) (fun hc => by (simp only [List.length_map]; omega))) rfl ?_
           | refine dly rfl rfl rfl (lop_index_own0 (by
            first
             | exact W rfl id
             | exact E rfl) sgT (E rfl) (fun hc => by omega)) rfl ?_
           | refine dly rfl rfl rfl (lop_index_own (by
            first
             | exact W rfl id
             | exact E rfl) sgT (E rfl) (fun hc => by omega)) rfl ?_)
        | refine dlg rfl rfl rfl (lop_index_ro (by
           first
            | exact W rfl (by
            first
             | exact id
             | simp)
            | exact E rfl) (E rfl) (fun hc => by (try simp at hc) <;> (simp only [List.length_map]; omega))) rfl ?_
        | refine dlg rfl rfl rfl (lop_index_own0 (by
           first
            | exact W rfl (by
            first
             | exact id
             | simp)
            | exact E rfl) sgT (E rfl) (fun hc => by (try simp at hc) <;> omega)) rfl ?_
        | refine dlg rfl rfl rfl (lop_index_own (by
           first
            | exact W rfl (by
            first
             | exact id
             | simp)
            | exact E rfl) sgT (E rfl) (fun hc => by (try simp at hc) <;> omega)) rfl ?_
        | refine dlw rfl rfl rfl (lop_index_ro (by
           first
            | exact W rfl (by
            first
             | exact id
             | simp)
            | exact E rfl) (E rfl) (fun hc => by (try simp at hc) <;> (simp only [List.length_map]; omega))) rfl ?_
        | refine dlw rfl rfl rfl (lop_index_own0 (by
           first
            | exact W rfl (by
            first
             | exact id
             | simp)
            | exact E rfl) sgT (E rfl) (fun hc => by (try simp at hc) <;> omega)) rfl ?_
        | refine dlw rfl rfl rfl (lop_index_own (by
           first
            | exact W rfl (by
            first
             | exact id
             | simp)
            | exact E rfl) sgT (E rfl) (fun hc => by (try simp at hc) <;> omega)) rfl ?_
        | refine dlw rfl rfl rfl (lop_no (v := .bool false)) rfl ?_
      first
        | refine dln rfl rfl rfl rfl rfl ?_
        | (
          first
           | refine dly rfl rfl rfl (lop_load_el (by
            first
             | exact W rfl id
             | exact E rfl) rfl (fun hc => by
            first
             | rfl
             | exact get_map (by assumption)
             | assumption
             | exact get_map (at_bang (by omega))) (fun _ => rfl)) rfl ?_
           | refine dly rfl rfl rfl (lop_load_ow (by
            first
             | exact W rfl id
             | exact E rfl) rfl sgT (fun hc => by
            first
             | rfl
             | exact get_map (by assumption)
             | assumption
             | exact get_map (at_bang (by omega))) (fun _ => rfl)) rfl ?_)
        | refine dlg rfl rfl rfl (lop_load_el (by
           first
            | exact W rfl (by
            first
             | exact id
             | simp)
            | exact E rfl) rfl (fun hc => by
           first
            | rfl
            | exact get_map (by assumption)
            | assumption
            | exact get_map (at_bang (by (try simp at hc) <;> omega))) (fun _ => rfl)) rfl ?_
        | refine dlg rfl rfl rfl (lop_load_ow (by
           first
            | exact W rfl (by
            first
             | exact id
             | simp)
            | exact E rfl) rfl sgT (fun hc => by
           first
            | rfl
            | exact get_map (by assumption)
            | assumption
            | exact get_map (at_bang (by (try simp at hc) <;> omega))) (fun _ => rfl)) rfl ?_
        | refine dlw rfl rfl rfl (lop_load_el (by
           first
            | exact W rfl (by
            first
             | exact id
             | simp)
            | exact E rfl) rfl (fun hc => by
           first
            | rfl
            | exact get_map (by assumption)
            | assumption
            | exact get_map (at_bang (by (try simp at hc) <;> omega))) (fun _ => rfl)) rfl ?_
        | refine dlw rfl rfl rfl (lop_load_ow (by
           first
            | exact W rfl (by
            first
             | exact id
             | simp)
            | exact E rfl) rfl sgT (fun hc => by
           first
            | rfl
            | exact get_map (by assumption)
            | assumption
            | exact get_map (at_bang (by (try simp at hc) <;> omega))) (fun _ => rfl)) rfl ?_
        | refine dlw rfl rfl rfl (lop_no (v := .bool false)) rfl ?_
      first | refine dln rfl rfl rfl rfl rfl ?_ | (refine dly rfl rfl rfl (lop_eql (by first | exact W rfl id | exact E rfl) (by first | exact W rfl id | exact E rfl)) rfl ?_) | refine dlg rfl rfl rfl (lop_eql (by first | exact W rfl (by first | exact id | simp) | exact E rfl) (by first | exact W rfl (by first | exact id | simp) | exact E rfl)) rfl ?_ | refine dlw rfl rfl rfl (lop_eql (by first | exact W rfl (by first | exact id | simp) | exact E rfl) (by first | exact W rfl (by first | exact id | simp) | exact E rfl)) rfl ?_ | refine dlw rfl rfl rfl (lop_no (v := .bool false)) rfl ?_
      first | refine dln rfl rfl rfl rfl rfl ?_ | (first | refine dly rfl rfl rfl (lop_pick_t (by first | exact W rfl id | exact E rfl) (E rfl)) rfl ?_ | refine dly rfl rfl rfl (lop_pick_f (by first | exact W rfl id | exact E rfl) (by first | exact W rfl (by simp) | exact E rfl)) rfl ?_ | refine dly rfl rfl rfl (lop_pick (by first | exact W rfl id | exact E rfl) (E rfl) (by first | exact W rfl (by simp) | exact E rfl)) rfl ?_) | refine dlg rfl rfl rfl (lop_pick_t (by first | exact W rfl id | exact E rfl) (E rfl)) rfl ?_ | refine dlg rfl rfl rfl (lop_pick_f (by first | exact W rfl id | exact E rfl) (by first | exact W rfl (by simp) | exact E rfl)) rfl ?_ | refine dlg rfl rfl rfl (lop_pick (by first | exact W rfl id | exact E rfl) (E rfl) (by first | exact W rfl (by simp) | exact E rfl)) rfl ?_
      refine z160 ?_
      refine dcw (ckS r p q m lv (labelP S n).2) rfl Tryz.call58 (ck_need hN0 _ true) rfl argsleT stleS hbtS ?_
      rintro _ σ' rfl h44
      unfold ckS ckC; (try dsimp only)
      apply rd_sto; exact nflT
      refine deT ?_
      refine sq43 ?_
      refine ⟨j + 1, hlt, by show xl.length - (j + 1) < xl.length - j; omega, ?_⟩
      (try dsimp only)
      rw [hnx]
      exact sgoT
    · rw [ea]; subst eb; rw [ea, show eq1 [] [v] = false by simp [eq1]] at hnx
      refine rgD [(0, true), (1, true), (2, true), (3, true), (4, true), (5, true), (6, true), (7, true), (8, true), (9, true), (10, true), (11, true), (12, true), (13, true), (14, true), (15, true), (16, true), (17, true), (18, true), (19, true), (20, false)] ?_
      refine sq17 ?_
      refine sq100 ?_
      refine z78 ?_
      refine z79 ?_
      rw [show ((([] : List Int).length : Int) == (([v] : List Int).length : Int)) = false from rfl]
      refine dlo rfl (lop_move (E rfl)) rfl ?_
      refine z156 ?_
      first | refine dln rfl rfl rfl rfl rfl ?_ | (first | refine dly rfl rfl rfl (lop_len_map (by first | exact W rfl id | exact E rfl)) rfl ?_ | refine dly rfl rfl rfl (lop_len_ro (by first | exact W rfl id | exact E rfl)) rfl ?_ | refine dly rfl rfl rfl (lop_len_own (by first | exact W rfl id | exact E rfl)) rfl ?_) | refine dlg rfl rfl rfl (lop_len_map (by first | exact W rfl id | exact E rfl)) rfl ?_ | refine dlg rfl rfl rfl (lop_len_ro (by first | exact W rfl id | exact E rfl)) rfl ?_ | refine dlg rfl rfl rfl (lop_len_own (by first | exact W rfl id | exact E rfl)) rfl ?_
      first | refine dln rfl rfl rfl rfl rfl ?_ | (refine dly rfl rfl rfl (lop_eql (by first | exact W rfl id | exact E rfl) (E rfl)) rfl ?_) | refine dlg rfl rfl rfl (lop_eql (by first | exact W rfl id | exact E rfl) (E rfl)) rfl ?_
      first | refine dln rfl rfl rfl rfl rfl ?_ | (refine dly rfl rfl rfl (lop_move (by first | exact W rfl id | exact E rfl)) rfl ?_) | refine dlg rfl rfl rfl (lop_move (by first | exact W rfl id | exact E rfl)) rfl ?_
      first | refine dln rfl rfl rfl rfl rfl ?_ | (refine dly rfl rfl rfl (lop_move (E rfl)) rfl ?_) | refine dlg rfl rfl rfl (lop_move (E rfl)) rfl ?_ | refine dlw rfl rfl rfl (lop_move (E rfl)) rfl ?_ | refine dlw rfl rfl rfl (lop_no (v := .bool false)) rfl ?_
      first
        | refine dln rfl rfl rfl rfl rfl ?_
        | (
          first
           | refine dly rfl rfl rfl (lop_index_ro (by
            first
             | exact W rfl id
             | exact E rfl) (E rfl) (fun hc => by (simp only [List.length_map]; omega))) rfl ?_
           | refine dly rfl rfl rfl (lop_index_own0 (by
            first
             | exact W rfl id
             | exact E rfl) sgT (E rfl) (fun hc => by omega)) rfl ?_
           | refine dly rfl rfl rfl (lop_index_own (by
            first
             | exact W rfl id
             | exact E rfl) sgT (E rfl) (fun hc => by omega)) rfl ?_)
        | refine dlg rfl rfl rfl (lop_index_ro (by
           first
            | exact W rfl (by
            first
             | exact id
             | simp)
            | exact E rfl) (E rfl) (fun hc => by (try simp at hc) <;> (simp only [List.length_map]; omega))) rfl ?_
        | refine dlg rfl rfl rfl (lop_index_own0 (by
           first
            | exact W rfl (by
            first
             | exact id
             | simp)
            | exact E rfl) sgT (E rfl) (fun hc => by (try simp at hc) <;> omega)) rfl ?_
        | refine dlg rfl rfl rfl (lop_index_own (by
           first
            | exact W rfl (by
            first
             | exact id
             | simp)
            | exact E rfl) sgT (E rfl) (fun hc => by (try simp at hc) <;> omega)) rfl ?_
        | refine dlw rfl rfl rfl (lop_index_ro (by
           first
            | exact W rfl (by
            first
             | exact id
             | simp)
            | exact E rfl) (E rfl) (fun hc => by (try simp at hc) <;> (simp only [List.length_map]; omega))) rfl ?_
        | refine dlw rfl rfl rfl (lop_index_own0 (by
           first
            | exact W rfl (by
            first
             | exact id
             | simp)
            | exact E rfl) sgT (E rfl) (fun hc => by (try simp at hc) <;> omega)) rfl ?_
        | refine dlw rfl rfl rfl (lop_index_own (by
           first
            | exact W rfl (by
            first
             | exact id
             | simp)
            | exact E rfl) sgT (E rfl) (fun hc => by (try simp at hc) <;> omega)) rfl ?_
        | refine dlw rfl rfl rfl (lop_no (v := .bool false)) rfl ?_
      first
        | refine dln rfl rfl rfl rfl rfl ?_
        | (
          first
           | refine dly rfl rfl rfl (lop_load_el (by
            first
             | exact W rfl id
             | exact E rfl) rfl (fun hc => by
            first
             | rfl
             | exact get_map (by assumption)
             | assumption
             | exact get_map (at_bang (by omega))) (fun _ => rfl)) rfl ?_
           | refine dly rfl rfl rfl (lop_load_ow (by
            first
             | exact W rfl id
             | exact E rfl) rfl sgT (fun hc => by
            first
             | rfl
             | exact get_map (by assumption)
             | assumption
             | exact get_map (at_bang (by omega))) (fun _ => rfl)) rfl ?_)
        | refine dlg rfl rfl rfl (lop_load_el (by
           first
            | exact W rfl (by
            first
             | exact id
             | simp)
            | exact E rfl) rfl (fun hc => by
           first
            | rfl
            | exact get_map (by assumption)
            | assumption
            | exact get_map (at_bang (by (try simp at hc) <;> omega))) (fun _ => rfl)) rfl ?_
        | refine dlg rfl rfl rfl (lop_load_ow (by
           first
            | exact W rfl (by
            first
             | exact id
             | simp)
            | exact E rfl) rfl sgT (fun hc => by
           first
            | rfl
            | exact get_map (by assumption)
            | assumption
            | exact get_map (at_bang (by (try simp at hc) <;> omega))) (fun _ => rfl)) rfl ?_
        | refine dlw rfl rfl rfl (lop_load_el (by
           first
            | exact W rfl (by
            first
             | exact id
             | simp)
            | exact E rfl) rfl (fun hc => by
           first
            | rfl
            | exact get_map (by assumption)
            | assumption
            | exact get_map (at_bang (by (try simp at hc) <;> omega))) (fun _ => rfl)) rfl ?_
        | refine dlw rfl rfl rfl (lop_load_ow (by
           first
            | exact W rfl (by
            first
             | exact id
             | simp)
            | exact E rfl) rfl sgT (fun hc => by
           first
            | rfl
            | exact get_map (by assumption)
            | assumption
            | exact get_map (at_bang (by (try simp at hc) <;> omega))) (fun _ => rfl)) rfl ?_
        | refine dlw rfl rfl rfl (lop_no (v := .bool false)) rfl ?_
      first | refine dln rfl rfl rfl rfl rfl ?_ | (refine dly rfl rfl rfl (lop_move (E rfl)) rfl ?_) | refine dlg rfl rfl rfl (lop_move (E rfl)) rfl ?_ | refine dlw rfl rfl rfl (lop_move (E rfl)) rfl ?_ | refine dlw rfl rfl rfl (lop_no (v := .bool false)) rfl ?_
      first
        | refine dln rfl rfl rfl rfl rfl ?_
        | (
          first
           | refine dly rfl rfl rfl (lop_index_ro (by
            first
             | exact W rfl id
             | exact E rfl) (E rfl) (fun hc => by (simp only [List.length_map]; omega))) rfl ?_
           | refine dly rfl rfl rfl (lop_index_own0 (by
            first
             | exact W rfl id
             | exact E rfl) sgT (E rfl) (fun hc => by omega)) rfl ?_
           | refine dly rfl rfl rfl (lop_index_own (by
            first
             | exact W rfl id
             | exact E rfl) sgT (E rfl) (fun hc => by omega)) rfl ?_)
        | refine dlg rfl rfl rfl (lop_index_ro (by
           first
            | exact W rfl (by
            first
             | exact id
             | simp)
            | exact E rfl) (E rfl) (fun hc => by (try simp at hc) <;> (simp only [List.length_map]; omega))) rfl ?_
        | refine dlg rfl rfl rfl (lop_index_own0 (by
           first
            | exact W rfl (by
            first
             | exact id
             | simp)
            | exact E rfl) sgT (E rfl) (fun hc => by (try simp at hc) <;> omega)) rfl ?_
        | refine dlg rfl rfl rfl (lop_index_own (by
           first
            | exact W rfl (by
            first
             | exact id
             | simp)
            | exact E rfl) sgT (E rfl) (fun hc => by (try simp at hc) <;> omega)) rfl ?_
        | refine dlw rfl rfl rfl (lop_index_ro (by
           first
            | exact W rfl (by
            first
             | exact id
             | simp)
            | exact E rfl) (E rfl) (fun hc => by (try simp at hc) <;> (simp only [List.length_map]; omega))) rfl ?_
        | refine dlw rfl rfl rfl (lop_index_own0 (by
           first
            | exact W rfl (by
            first
             | exact id
             | simp)
            | exact E rfl) sgT (E rfl) (fun hc => by (try simp at hc) <;> omega)) rfl ?_
        | refine dlw rfl rfl rfl (lop_index_own (by
           first
            | exact W rfl (by
            first
             | exact id
             | simp)
            | exact E rfl) sgT (E rfl) (fun hc => by (try simp at hc) <;> omega)) rfl ?_
        | refine dlw rfl rfl rfl (lop_no (v := .bool false)) rfl ?_
      first
        | refine dln rfl rfl rfl rfl rfl ?_
        | (
          first
           | refine dly rfl rfl rfl (lop_load_el (by
            first
             | exact W rfl id
             | exact E rfl) rfl (fun hc => by
            first
             | rfl
             | exact get_map (by assumption)
             | assumption
             | exact get_map (at_bang (by omega))) (fun _ => rfl)) rfl ?_
           | refine dly rfl rfl rfl (lop_load_ow (by
            first
             | exact W rfl id
             | exact E rfl) rfl sgT (fun hc => by
            first
             | rfl
             | exact get_map (by assumption)
             | assumption
             | exact get_map (at_bang (by omega))) (fun _ => rfl)) rfl ?_)
        | refine dlg rfl rfl rfl (lop_load_el (by
           first
            | exact W rfl (by
            first
             | exact id
             | simp)
            | exact E rfl) rfl (fun hc => by
           first
            | rfl
            | exact get_map (by assumption)
            | assumption
            | exact get_map (at_bang (by (try simp at hc) <;> omega))) (fun _ => rfl)) rfl ?_
        | refine dlg rfl rfl rfl (lop_load_ow (by
           first
            | exact W rfl (by
            first
             | exact id
             | simp)
            | exact E rfl) rfl sgT (fun hc => by
           first
            | rfl
            | exact get_map (by assumption)
            | assumption
            | exact get_map (at_bang (by (try simp at hc) <;> omega))) (fun _ => rfl)) rfl ?_
        | refine dlw rfl rfl rfl (lop_load_el (by
           first
            | exact W rfl (by
            first
             | exact id
             | simp)
            | exact E rfl) rfl (fun hc => by
           first
            | rfl
            | exact get_map (by assumption)
            | assumption
            | exact get_map (at_bang (by (try simp at hc) <;> omega))) (fun _ => rfl)) rfl ?_
        | refine dlw rfl rfl rfl (lop_load_ow (by
           first
            | exact W rfl (by
            first
             | exact id
             | simp)
            | exact E rfl) rfl sgT (fun hc => by
           first
            | rfl
            | exact get_map (by assumption)
            | assumption
            | exact get_map (at_bang (by (try simp at hc) <;> omega))) (fun _ => rfl)) rfl ?_
        | refine dlw rfl rfl rfl (lop_no (v := .bool false)) rfl ?_
      first | refine dln rfl rfl rfl rfl rfl ?_ | (refine dly rfl rfl rfl (lop_eql (by first | exact W rfl id | exact E rfl) (by first | exact W rfl id | exact E rfl)) rfl ?_) | refine dlg rfl rfl rfl (lop_eql (by first | exact W rfl (by first | exact id | simp) | exact E rfl) (by first | exact W rfl (by first | exact id | simp) | exact E rfl)) rfl ?_ | refine dlw rfl rfl rfl (lop_eql (by first | exact W rfl (by first | exact id | simp) | exact E rfl) (by first | exact W rfl (by first | exact id | simp) | exact E rfl)) rfl ?_ | refine dlw rfl rfl rfl (lop_no (v := .bool false)) rfl ?_
      first | refine dln rfl rfl rfl rfl rfl ?_ | (first | refine dly rfl rfl rfl (lop_pick_t (by first | exact W rfl id | exact E rfl) (E rfl)) rfl ?_ | refine dly rfl rfl rfl (lop_pick_f (by first | exact W rfl id | exact E rfl) (by first | exact W rfl (by simp) | exact E rfl)) rfl ?_ | refine dly rfl rfl rfl (lop_pick (by first | exact W rfl id | exact E rfl) (E rfl) (by first | exact W rfl (by simp) | exact E rfl)) rfl ?_) | refine dlg rfl rfl rfl (lop_pick_t (by first | exact W rfl id | exact E rfl) (E rfl)) rfl ?_ | refine dlg rfl rfl rfl (lop_pick_f (by first | exact W rfl id | exact E rfl) (by first | exact W rfl (by simp) | exact E rfl)) rfl ?_ | refine dlg rfl rfl rfl (lop_pick (by first | exact W rfl id | exact E rfl) (E rfl) (by first | exact W rfl (by simp) | exact E rfl)) rfl ?_
      refine z160 ?_
      refine dcw (ckS r p q m lv (labelP S n).2) rfl Tryz.call58 (ck_need hN0 _ false) rfl argsleT stleS hbtS ?_
      rintro _ σ' rfl h44
      unfold ckS ckC; (try dsimp only)
      apply rd_sto; exact nflT
      refine deT ?_
      refine sq43 ?_
      refine ⟨j + 1, hlt, by show xl.length - (j + 1) < xl.length - j; omega, ?_⟩
      (try dsimp only)
      rw [hnx]
      exact sgoT
    · rw [ea]; subst eb; rw [ea, show eq1 [g] [] = false by simp [eq1]] at hnx
      refine rgD [(0, true), (1, true), (2, true), (3, true), (4, true), (5, true), (6, true), (7, true), (8, true), (9, true), (10, true), (11, true), (12, true), (13, true), (14, true), (15, true), (16, true), (17, true), (18, true), (19, true), (20, false)] ?_
      refine sq17 ?_
      refine sq100 ?_
      refine z78 ?_
      refine z79 ?_
      rw [show ((([g] : List Int).length : Int) == (([] : List Int).length : Int)) = false from rfl]
      refine dlo rfl (lop_move (E rfl)) rfl ?_
      refine z156 ?_
      first | refine dln rfl rfl rfl rfl rfl ?_ | (first | refine dly rfl rfl rfl (lop_len_map (by first | exact W rfl id | exact E rfl)) rfl ?_ | refine dly rfl rfl rfl (lop_len_ro (by first | exact W rfl id | exact E rfl)) rfl ?_ | refine dly rfl rfl rfl (lop_len_own (by first | exact W rfl id | exact E rfl)) rfl ?_) | refine dlg rfl rfl rfl (lop_len_map (by first | exact W rfl id | exact E rfl)) rfl ?_ | refine dlg rfl rfl rfl (lop_len_ro (by first | exact W rfl id | exact E rfl)) rfl ?_ | refine dlg rfl rfl rfl (lop_len_own (by first | exact W rfl id | exact E rfl)) rfl ?_
      first | refine dln rfl rfl rfl rfl rfl ?_ | (refine dly rfl rfl rfl (lop_eql (by first | exact W rfl id | exact E rfl) (E rfl)) rfl ?_) | refine dlg rfl rfl rfl (lop_eql (by first | exact W rfl id | exact E rfl) (E rfl)) rfl ?_
      first | refine dln rfl rfl rfl rfl rfl ?_ | (refine dly rfl rfl rfl (lop_move (by first | exact W rfl id | exact E rfl)) rfl ?_) | refine dlg rfl rfl rfl (lop_move (by first | exact W rfl id | exact E rfl)) rfl ?_
      first | refine dln rfl rfl rfl rfl rfl ?_ | (refine dly rfl rfl rfl (lop_move (E rfl)) rfl ?_) | refine dlg rfl rfl rfl (lop_move (E rfl)) rfl ?_ | refine dlw rfl rfl rfl (lop_move (E rfl)) rfl ?_ | refine dlw rfl rfl rfl (lop_no (v := .bool false)) rfl ?_
      first
        | refine dln rfl rfl rfl rfl rfl ?_
        | (
          first
           | refine dly rfl rfl rfl (lop_index_ro (by
            first
             | exact W rfl id
             | exact E rfl) (E rfl) (fun hc => by (simp only [List.length_map]; omega))) rfl ?_
           | refine dly rfl rfl rfl (lop_index_own0 (by
            first
             | exact W rfl id
             | exact E rfl) sgT (E rfl) (fun hc => by omega)) rfl ?_
           | refine dly rfl rfl rfl (lop_index_own (by
            first
             | exact W rfl id
             | exact E rfl) sgT (E rfl) (fun hc => by omega)) rfl ?_)
        | refine dlg rfl rfl rfl (lop_index_ro (by
           first
            | exact W rfl (by
            first
             | exact id
             | simp)
            | exact E rfl) (E rfl) (fun hc => by (try simp at hc) <;> (simp only [List.length_map]; omega))) rfl ?_
        | refine dlg rfl rfl rfl (lop_index_own0 (by
           first
            | exact W rfl (by
            first
             | exact id
             | simp)
            | exact E rfl) sgT (E rfl) (fun hc => by (try simp at hc) <;> omega)) rfl ?_
        | refine dlg rfl rfl rfl (lop_index_own (by
           first
            | exact W rfl (by
            first
             | exact id
             | simp)
            | exact E rfl) sgT (E rfl) (fun hc => by (try simp at hc) <;> omega)) rfl ?_
        | refine dlw rfl rfl rfl (lop_index_ro (by
           first
            | exact W rfl (by
            first
             | exact id
             | simp)
            | exact E rfl) (E rfl) (fun hc => by (try simp at hc) <;> (simp only [List.length_map]; omega))) rfl ?_
        | refine dlw rfl rfl rfl (lop_index_own0 (by
           first
            | exact W rfl (by
            first
             | exact id
             | simp)
            | exact E rfl) sgT (E rfl) (fun hc => by (try simp at hc) <;> omega)) rfl ?_
        | refine dlw rfl rfl rfl (lop_index_own (by
           first
            | exact W rfl (by
            first
             | exact id
             | simp)
            | exact E rfl) sgT (E rfl) (fun hc => by (try simp at hc) <;> omega)) rfl ?_
        | refine dlw rfl rfl rfl (lop_no (v := .bool false)) rfl ?_
      first
        | refine dln rfl rfl rfl rfl rfl ?_
        | (
          first
           | refine dly rfl rfl rfl (lop_load_el (by
            first
             | exact W rfl id
             | exact E rfl) rfl (fun hc => by
            first
             | rfl
             | exact get_map (by assumption)
             | assumption
             | exact get_map (at_bang (by omega))) (fun _ => rfl)) rfl ?_
           | refine dly rfl rfl rfl (lop_load_ow (by
            first
             | exact W rfl id
             | exact E rfl) rfl sgT (fun hc => by
            first
             | rfl
             | exact get_map (by assumption)
             | assumption
             | exact get_map (at_bang (by omega))) (fun _ => rfl)) rfl ?_)
        | refine dlg rfl rfl rfl (lop_load_el (by
           first
            | exact W rfl (by
            first
             | exact id
             | simp)
            | exact E rfl) rfl (fun hc => by
           first
            | rfl
            | exact get_map (by assumption)
            | assumption
            | exact get_map (at_bang (by (try simp at hc) <;> omega))) (fun _ => rfl)) rfl ?_
        | refine dlg rfl rfl rfl (lop_load_ow (by
           first
            | exact W rfl (by
            first
             | exact id
             | simp)
            | exact E rfl) rfl sgT (fun hc => by
           first
            | rfl
            | exact get_map (by assumption)
            | assumption
            | exact get_map (at_bang (by (try simp at hc) <;> omega))) (fun _ => rfl)) rfl ?_
        | refine dlw rfl rfl rfl (lop_load_el (by
           first
            | exact W rfl (by
            first
             | exact id
             | simp)
            | exact E rfl) rfl (fun hc => by
           first
            | rfl
            | exact get_map (by assumption)
            | assumption
            | exact get_map (at_bang (by (try simp at hc) <;> omega))) (fun _ => rfl)) rfl ?_
        | refine dlw rfl rfl rfl (lop_load_ow (by
           first
            | exact W rfl (by
            first
             | exact id
             | simp)
            | exact E rfl) rfl sgT (fun hc => by
           first
            | rfl
            | exact get_map (by assumption)
            | assumption
            | exact get_map (at_bang (by (try simp at hc) <;> omega))) (fun _ => rfl)) rfl ?_
        | refine dlw rfl rfl rfl (lop_no (v := .bool false)) rfl ?_
      first | refine dln rfl rfl rfl rfl rfl ?_ | (refine dly rfl rfl rfl (lop_move (E rfl)) rfl ?_) | refine dlg rfl rfl rfl (lop_move (E rfl)) rfl ?_ | refine dlw rfl rfl rfl (lop_move (E rfl)) rfl ?_ | refine dlw rfl rfl rfl (lop_no (v := .bool false)) rfl ?_
      first
        | refine dln rfl rfl rfl rfl rfl ?_
        | (
          first
           | refine dly rfl rfl rfl (lop_index_ro (by
            first
             | exact W rfl id
             | exact E rfl) (E rfl) (fun hc => by (simp only [List.length_map]; omega))) rfl ?_
           | refine dly rfl rfl rfl (lop_index_own0 (by
            first
             | exact W rfl id
             | exact E rfl) sgT (E rfl) (fun hc => by omega)) rfl ?_
           | refine dly rfl rfl rfl (lop_index_own (by
            first
             | exact W rfl id
             | exact E rfl) sgT (E rfl) (fun hc => by omega)) rfl ?_)
        | refine dlg rfl rfl rfl (lop_index_ro (by
           first
            | exact W rfl (by
            first
             | exact id
             | simp)
            | exact E rfl) (E rfl) (fun hc => by (try simp at hc) <;> (simp only [List.length_map]; omega))) rfl ?_
        | refine dlg rfl rfl rfl (lop_index_own0 (by
           first
            | exact W rfl (by
            first
             | exact id
             | simp)
            | exact E rfl) sgT (E rfl) (fun hc => by (try simp at hc) <;> omega)) rfl ?_
        | refine dlg rfl rfl rfl (lop_index_own (by
           first
            | exact W rfl (by
            first
             | exact id
             | simp)
            | exact E rfl) sgT (E rfl) (fun hc => by (try simp at hc) <;> omega)) rfl ?_
        | refine dlw rfl rfl rfl (lop_index_ro (by
           first
            | exact W rfl (by
            first
             | exact id
             | simp)
            | exact E rfl) (E rfl) (fun hc => by (try simp at hc) <;> (simp only [List.length_map]; omega))) rfl ?_
        | refine dlw rfl rfl rfl (lop_index_own0 (by
           first
            | exact W rfl (by
            first
             | exact id
             | simp)
            | exact E rfl) sgT (E rfl) (fun hc => by (try simp at hc) <;> omega)) rfl ?_
        | refine dlw rfl rfl rfl (lop_index_own (by
           first
            | exact W rfl (by
            first
             | exact id
             | simp)
            | exact E rfl) sgT (E rfl) (fun hc => by (try simp at hc) <;> omega)) rfl ?_
        | refine dlw rfl rfl rfl (lop_no (v := .bool false)) rfl ?_
      first
        | refine dln rfl rfl rfl rfl rfl ?_
        | (
          first
           | refine dly rfl rfl rfl (lop_load_el (by
            first
             | exact W rfl id
             | exact E rfl) rfl (fun hc => by
            first
             | rfl
             | exact get_map (by assumption)
             | assumption
             | exact get_map (at_bang (by omega))) (fun _ => rfl)) rfl ?_
           | refine dly rfl rfl rfl (lop_load_ow (by
            first
             | exact W rfl id
             | exact E rfl) rfl sgT (fun hc => by
            first
             | rfl
             | exact get_map (by assumption)
             | assumption
             | exact get_map (at_bang (by omega))) (fun _ => rfl)) rfl ?_)
        | refine dlg rfl rfl rfl (lop_load_el (by
           first
            | exact W rfl (by
            first
             | exact id
             | simp)
            | exact E rfl) rfl (fun hc => by
           first
            | rfl
            | exact get_map (by assumption)
            | assumption
            | exact get_map (at_bang (by (try simp at hc) <;> omega))) (fun _ => rfl)) rfl ?_
        | refine dlg rfl rfl rfl (lop_load_ow (by
           first
            | exact W rfl (by
            first
             | exact id
             | simp)
            | exact E rfl) rfl sgT (fun hc => by
           first
            | rfl
            | exact get_map (by assumption)
            | assumption
            | exact get_map (at_bang (by (try simp at hc) <;> omega))) (fun _ => rfl)) rfl ?_
        | refine dlw rfl rfl rfl (lop_load_el (by
           first
            | exact W rfl (by
            first
             | exact id
             | simp)
            | exact E rfl) rfl (fun hc => by
           first
            | rfl
            | exact get_map (by assumption)
            | assumption
            | exact get_map (at_bang (by (try simp at hc) <;> omega))) (fun _ => rfl)) rfl ?_
        | refine dlw rfl rfl rfl (lop_load_ow (by
           first
            | exact W rfl (by
            first
             | exact id
             | simp)
            | exact E rfl) rfl sgT (fun hc => by
           first
            | rfl
            | exact get_map (by assumption)
            | assumption
            | exact get_map (at_bang (by (try simp at hc) <;> omega))) (fun _ => rfl)) rfl ?_
        | refine dlw rfl rfl rfl (lop_no (v := .bool false)) rfl ?_
      first | refine dln rfl rfl rfl rfl rfl ?_ | (refine dly rfl rfl rfl (lop_eql (by first | exact W rfl id | exact E rfl) (by first | exact W rfl id | exact E rfl)) rfl ?_) | refine dlg rfl rfl rfl (lop_eql (by first | exact W rfl (by first | exact id | simp) | exact E rfl) (by first | exact W rfl (by first | exact id | simp) | exact E rfl)) rfl ?_ | refine dlw rfl rfl rfl (lop_eql (by first | exact W rfl (by first | exact id | simp) | exact E rfl) (by first | exact W rfl (by first | exact id | simp) | exact E rfl)) rfl ?_ | refine dlw rfl rfl rfl (lop_no (v := .bool false)) rfl ?_
      first | refine dln rfl rfl rfl rfl rfl ?_ | (first | refine dly rfl rfl rfl (lop_pick_t (by first | exact W rfl id | exact E rfl) (E rfl)) rfl ?_ | refine dly rfl rfl rfl (lop_pick_f (by first | exact W rfl id | exact E rfl) (by first | exact W rfl (by simp) | exact E rfl)) rfl ?_ | refine dly rfl rfl rfl (lop_pick (by first | exact W rfl id | exact E rfl) (E rfl) (by first | exact W rfl (by simp) | exact E rfl)) rfl ?_) | refine dlg rfl rfl rfl (lop_pick_t (by first | exact W rfl id | exact E rfl) (E rfl)) rfl ?_ | refine dlg rfl rfl rfl (lop_pick_f (by first | exact W rfl id | exact E rfl) (by first | exact W rfl (by simp) | exact E rfl)) rfl ?_ | refine dlg rfl rfl rfl (lop_pick (by first | exact W rfl id | exact E rfl) (E rfl) (by first | exact W rfl (by simp) | exact E rfl)) rfl ?_
      refine z160 ?_
      refine dcw (ckS r p q m lv (labelP S n).2) rfl Tryz.call58 (ck_need hN0 _ false) rfl argsleT stleS hbtS ?_
      rintro _ σ' rfl h44
      unfold ckS ckC; (try dsimp only)
      apply rd_sto; exact nflT
      refine deT ?_
      refine sq43 ?_
      refine ⟨j + 1, hlt, by show xl.length - (j + 1) < xl.length - j; omega, ?_⟩
      (try dsimp only)
      rw [hnx]
      exact sgoT
    · rw [ea]; subst eb; rw [ea, show eq1 [g] [v] = (g == v) by simp [eq1]] at hnx
      have hg1 : [g].length = 1 := rfl
      have hv1 : [v].length = 1 := rfl
      refine rgD [(0, true), (1, true), (2, true), (3, true), (4, true), (5, true), (6, true), (7, true), (8, true), (9, true), (10, true), (11, true), (12, true), (13, true), (14, true), (15, true), (16, true), (17, true), (18, true), (19, true), (20, false)] ?_
      refine sq17 ?_
      refine sq100 ?_
      refine z78 ?_
      refine z79 ?_
      rw [show ((([g] : List Int).length : Int) == (([v] : List Int).length : Int)) = true from rfl]
      refine dlo rfl (lop_move (E rfl)) rfl ?_
      refine z156 ?_
      first | refine dln rfl rfl rfl rfl rfl ?_ | (first | refine dly rfl rfl rfl (lop_len_map (by first | exact W rfl id | exact E rfl)) rfl ?_ | refine dly rfl rfl rfl (lop_len_ro (by first | exact W rfl id | exact E rfl)) rfl ?_ | refine dly rfl rfl rfl (lop_len_own (by first | exact W rfl id | exact E rfl)) rfl ?_) | refine dlg rfl rfl rfl (lop_len_map (by first | exact W rfl id | exact E rfl)) rfl ?_ | refine dlg rfl rfl rfl (lop_len_ro (by first | exact W rfl id | exact E rfl)) rfl ?_ | refine dlg rfl rfl rfl (lop_len_own (by first | exact W rfl id | exact E rfl)) rfl ?_
      first | refine dln rfl rfl rfl rfl rfl ?_ | (refine dly rfl rfl rfl (lop_eql (by first | exact W rfl id | exact E rfl) (E rfl)) rfl ?_) | refine dlg rfl rfl rfl (lop_eql (by first | exact W rfl id | exact E rfl) (E rfl)) rfl ?_
      rw [show ((([g] : List Int).length : Int) == 0) = false from rfl]
      first | refine dln rfl rfl rfl rfl rfl ?_ | (refine dly rfl rfl rfl (lop_move (by first | exact W rfl id | exact E rfl)) rfl ?_) | refine dlg rfl rfl rfl (lop_move (by first | exact W rfl id | exact E rfl)) rfl ?_
      first | refine dln rfl rfl rfl rfl rfl ?_ | (refine dly rfl rfl rfl (lop_move (E rfl)) rfl ?_) | refine dlg rfl rfl rfl (lop_move (E rfl)) rfl ?_ | refine dlw rfl rfl rfl (lop_move (E rfl)) rfl ?_ | refine dlw rfl rfl rfl (lop_no (v := .bool false)) rfl ?_
      first
        | refine dln rfl rfl rfl rfl rfl ?_
        | (
          first
           | refine dly rfl rfl rfl (lop_index_ro (by
            first
             | exact W rfl id
             | exact E rfl) (E rfl) (fun hc => by (simp only [List.length_map]; omega))) rfl ?_
           | refine dly rfl rfl rfl (lop_index_own0 (by
            first
             | exact W rfl id
             | exact E rfl) sgT (E rfl) (fun hc => by omega)) rfl ?_
           | refine dly rfl rfl rfl (lop_index_own (by
            first
             | exact W rfl id
             | exact E rfl) sgT (E rfl) (fun hc => by omega)) rfl ?_)
        | refine dlg rfl rfl rfl (lop_index_ro (by
           first
            | exact W rfl (by
            first
             | exact id
             | simp)
            | exact E rfl) (E rfl) (fun hc => by (try simp at hc) <;> (simp only [List.length_map]; omega))) rfl ?_
        | refine dlg rfl rfl rfl (lop_index_own0 (by
           first
            | exact W rfl (by
            first
             | exact id
             | simp)
            | exact E rfl) sgT (E rfl) (fun hc => by (try simp at hc) <;> omega)) rfl ?_
        | refine dlg rfl rfl rfl (lop_index_own (by
           first
            | exact W rfl (by
            first
             | exact id
             | simp)
            | exact E rfl) sgT (E rfl) (fun hc => by (try simp at hc) <;> omega)) rfl ?_
        | refine dlw rfl rfl rfl (lop_index_ro (by
           first
            | exact W rfl (by
            first
             | exact id
             | simp)
            | exact E rfl) (E rfl) (fun hc => by (try simp at hc) <;> (simp only [List.length_map]; omega))) rfl ?_
        | refine dlw rfl rfl rfl (lop_index_own0 (by
           first
            | exact W rfl (by
            first
             | exact id
             | simp)
            | exact E rfl) sgT (E rfl) (fun hc => by (try simp at hc) <;> omega)) rfl ?_
        | refine dlw rfl rfl rfl (lop_index_own (by
           first
            | exact W rfl (by
            first
             | exact id
             | simp)
            | exact E rfl) sgT (E rfl) (fun hc => by (try simp at hc) <;> omega)) rfl ?_
        | refine dlw rfl rfl rfl (lop_no (v := .bool false)) rfl ?_
      first
        | refine dln rfl rfl rfl rfl rfl ?_
        | (
          first
           | refine dly rfl rfl rfl (lop_load_el (by
            first
             | exact W rfl id
             | exact E rfl) rfl (fun hc => by
            first
             | rfl
             | exact get_map (by assumption)
             | assumption
             | exact get_map (at_bang (by omega))) (fun _ => rfl)) rfl ?_
           | refine dly rfl rfl rfl (lop_load_ow (by
            first
             | exact W rfl id
             | exact E rfl) rfl sgT (fun hc => by
            first
             | rfl
             | exact get_map (by assumption)
             | assumption
             | exact get_map (at_bang (by omega))) (fun _ => rfl)) rfl ?_)
        | refine dlg rfl rfl rfl (lop_load_el (by
           first
            | exact W rfl (by
            first
             | exact id
             | simp)
            | exact E rfl) rfl (fun hc => by
           first
            | rfl
            | exact get_map (by assumption)
            | assumption
            | exact get_map (at_bang (by (try simp at hc) <;> omega))) (fun _ => rfl)) rfl ?_
        | refine dlg rfl rfl rfl (lop_load_ow (by
           first
            | exact W rfl (by
            first
             | exact id
             | simp)
            | exact E rfl) rfl sgT (fun hc => by
           first
            | rfl
            | exact get_map (by assumption)
            | assumption
            | exact get_map (at_bang (by (try simp at hc) <;> omega))) (fun _ => rfl)) rfl ?_
        | refine dlw rfl rfl rfl (lop_load_el (by
           first
            | exact W rfl (by
            first
             | exact id
             | simp)
            | exact E rfl) rfl (fun hc => by
           first
            | rfl
            | exact get_map (by assumption)
            | assumption
            | exact get_map (at_bang (by (try simp at hc) <;> omega))) (fun _ => rfl)) rfl ?_
        | refine dlw rfl rfl rfl (lop_load_ow (by
           first
            | exact W rfl (by
            first
             | exact id
             | simp)
            | exact E rfl) rfl sgT (fun hc => by
           first
            | rfl
            | exact get_map (by assumption)
            | assumption
            | exact get_map (at_bang (by (try simp at hc) <;> omega))) (fun _ => rfl)) rfl ?_
        | refine dlw rfl rfl rfl (lop_no (v := .bool false)) rfl ?_
      first | refine dln rfl rfl rfl rfl rfl ?_ | (refine dly rfl rfl rfl (lop_move (E rfl)) rfl ?_) | refine dlg rfl rfl rfl (lop_move (E rfl)) rfl ?_ | refine dlw rfl rfl rfl (lop_move (E rfl)) rfl ?_ | refine dlw rfl rfl rfl (lop_no (v := .bool false)) rfl ?_
      first
        | refine dln rfl rfl rfl rfl rfl ?_
        | (
          first
           | refine dly rfl rfl rfl (lop_index_ro (by
            first
             | exact W rfl id
             | exact E rfl) (E rfl) (fun hc => by (simp only [List.length_map]; omega))) rfl ?_
           | refine dly rfl rfl rfl (lop_index_own0 (by
            first
             | exact W rfl id
             | exact E rfl) sgT (E rfl) (fun hc => by omega)) rfl ?_
           | refine dly rfl rfl rfl (lop_index_own (by
            first
             | exact W rfl id
             | exact E rfl) sgT (E rfl) (fun hc => by omega)) rfl ?_)
        | refine dlg rfl rfl rfl (lop_index_ro (by
           first
            | exact W rfl (by
            first
             | exact id
             | simp)
            | exact E rfl) (E rfl) (fun hc => by (try simp at hc) <;> (simp only [List.length_map]; omega))) rfl ?_
        | refine dlg rfl rfl rfl (lop_index_own0 (by
           first
            | exact W rfl (by
            first
             | exact id
             | simp)
            | exact E rfl) sgT (E rfl) (fun hc => by (try simp at hc) <;> omega)) rfl ?_
        | refine dlg rfl rfl rfl (lop_index_own (by
           first
            | exact W rfl (by
            first
             | exact id
             | simp)
            | exact E rfl) sgT (E rfl) (fun hc => by (try simp at hc) <;> omega)) rfl ?_
        | refine dlw rfl rfl rfl (lop_index_ro (by
           first
            | exact W rfl (by
            first
             | exact id
             | simp)
            | exact E rfl) (E rfl) (fun hc => by (try simp at hc) <;> (simp only [List.length_map]; omega))) rfl ?_
        | refine dlw rfl rfl rfl (lop_index_own0 (by
           first
            | exact W rfl (by
            first
             | exact id
             | simp)
            | exact E rfl) sgT (E rfl) (fun hc => by (try simp at hc) <;> omega)) rfl ?_
        | refine dlw rfl rfl rfl (lop_index_own (by
           first
            | exact W rfl (by
            first
             | exact id
             | simp)
            | exact E rfl) sgT (E rfl) (fun hc => by (try simp at hc) <;> omega)) rfl ?_
        | refine dlw rfl rfl rfl (lop_no (v := .bool false)) rfl ?_
      first
        | refine dln rfl rfl rfl rfl rfl ?_
        | (
          first
           | refine dly rfl rfl rfl (lop_load_el (by
            first
             | exact W rfl id
             | exact E rfl) rfl (fun hc => by
            first
             | rfl
             | exact get_map (by assumption)
             | assumption
             | exact get_map (at_bang (by omega))) (fun _ => rfl)) rfl ?_
           | refine dly rfl rfl rfl (lop_load_ow (by
            first
             | exact W rfl id
             | exact E rfl) rfl sgT (fun hc => by
            first
             | rfl
             | exact get_map (by assumption)
             | assumption
             | exact get_map (at_bang (by omega))) (fun _ => rfl)) rfl ?_)
        | refine dlg rfl rfl rfl (lop_load_el (by
           first
            | exact W rfl (by
            first
             | exact id
             | simp)
            | exact E rfl) rfl (fun hc => by
           first
            | rfl
            | exact get_map (by assumption)
            | assumption
            | exact get_map (at_bang (by (try simp at hc) <;> omega))) (fun _ => rfl)) rfl ?_
        | refine dlg rfl rfl rfl (lop_load_ow (by
           first
            | exact W rfl (by
            first
             | exact id
             | simp)
            | exact E rfl) rfl sgT (fun hc => by
           first
            | rfl
            | exact get_map (by assumption)
            | assumption
            | exact get_map (at_bang (by (try simp at hc) <;> omega))) (fun _ => rfl)) rfl ?_
        | refine dlw rfl rfl rfl (lop_load_el (by
           first
            | exact W rfl (by
            first
             | exact id
             | simp)
            | exact E rfl) rfl (fun hc => by
           first
            | rfl
            | exact get_map (by assumption)
            | assumption
            | exact get_map (at_bang (by (try simp at hc) <;> omega))) (fun _ => rfl)) rfl ?_
        | refine dlw rfl rfl rfl (lop_load_ow (by
           first
            | exact W rfl (by
            first
             | exact id
             | simp)
            | exact E rfl) rfl sgT (fun hc => by
           first
            | rfl
            | exact get_map (by assumption)
            | assumption
            | exact get_map (at_bang (by (try simp at hc) <;> omega))) (fun _ => rfl)) rfl ?_
        | refine dlw rfl rfl rfl (lop_no (v := .bool false)) rfl ?_
      first | refine dln rfl rfl rfl rfl rfl ?_ | (refine dly rfl rfl rfl (lop_eql (by first | exact W rfl id | exact E rfl) (by first | exact W rfl id | exact E rfl)) rfl ?_) | refine dlg rfl rfl rfl (lop_eql (by first | exact W rfl (by first | exact id | simp) | exact E rfl) (by first | exact W rfl (by first | exact id | simp) | exact E rfl)) rfl ?_ | refine dlw rfl rfl rfl (lop_eql (by first | exact W rfl (by first | exact id | simp) | exact E rfl) (by first | exact W rfl (by first | exact id | simp) | exact E rfl)) rfl ?_ | refine dlw rfl rfl rfl (lop_no (v := .bool false)) rfl ?_
      first | refine dln rfl rfl rfl rfl rfl ?_ | (first | refine dly rfl rfl rfl (lop_pick_t (by first | exact W rfl id | exact E rfl) (E rfl)) rfl ?_ | refine dly rfl rfl rfl (lop_pick_f (by first | exact W rfl id | exact E rfl) (by first | exact W rfl (by simp) | exact E rfl)) rfl ?_ | refine dly rfl rfl rfl (lop_pick (by first | exact W rfl id | exact E rfl) (E rfl) (by first | exact W rfl (by simp) | exact E rfl)) rfl ?_) | refine dlg rfl rfl rfl (lop_pick_t (by first | exact W rfl id | exact E rfl) (E rfl)) rfl ?_ | refine dlg rfl rfl rfl (lop_pick_f (by first | exact W rfl id | exact E rfl) (by first | exact W rfl (by simp) | exact E rfl)) rfl ?_ | refine dlg rfl rfl rfl (lop_pick (by first | exact W rfl id | exact E rfl) (E rfl) (by first | exact W rfl (by simp) | exact E rfl)) rfl ?_
      refine z160 ?_
      refine dcw (ckS r p q m lv (labelP S n).2) rfl Tryz.call58 (ck_need hN0 _ (g == v)) rfl argsleT stleS hbtS ?_
      rintro _ σ' rfl h44
      unfold ckS ckC; (try dsimp only)
      apply rd_sto; exact nflT
      refine deT ?_
      refine sq43 ?_
      refine ⟨j + 1, hlt, by show xl.length - (j + 1) < xl.length - j; omega, ?_⟩
      (try dsimp only)
      rw [hnx]
      exact sgoT
  obtain rfl : j = xl.length := by simp at g4; omega
  rw [List.take_length] at hS ⊢
  generalize xl.foldl (tabP w) s2 = S at hS ⊢
  have h5 := hS.pops w
  unfold ckS ckC
  (try dsimp only)
  refine sq18 ?_
  refine cw (ckS r p q m lv S) Tryz.call61 (ck_popAll hN0 S hS w (by omega)) rfl argsleT stleS ?_
  rintro _ σ' rfl h48
  unfold ckS ckC; (try dsimp only)
  apply rs_sto; exact nflT
  refine sq27 ?_
  refine cw (ckS r p q m lv (popsP S w)) Tryz.call56 (ck_dead hN0 _ h5) rfl argsleT stleS ?_
  rintro _ σ' rfl h50
  unfold ckS ckC; (try dsimp only)
  apply rs_sto; exact nflT
  refine sq4 ?_
  refine aend_n ?_
  apply aend; exact resT
  · rfl
  · exact stleT
end
/-
  Package check: an instruction that goes elsewhere.
-/
/-- numbers that stand for places are none below 0 -/
structure Ins.Ck (x : Ins) : Prop where
  nn : x.op = 12 ∨ x.op = 13 ∨ x.op = 14 ∨ x.op = 16 ∨ x.op = 32 ∨ x.op = 33 ∨ x.op = 34 ∨ x.op = 35 ∨ x.op = 36 → 0 ≤ x.a
  ln : x.op = 14 → ∀ n ∈ x.l, 0 ≤ n
  ll : x.l.length ≤ 1000000
  hi : x.a ≤ 9223372036854775807
/-- what a checker may be asked in -/
structure Md.Ck (m : Md) : Prop where
  ts : m.TS
  im : m.im.length ≤ 1000000
section
variable {r p q : Nat} {m : Md} {lv : AV}
theorem ck_control (hN : Nm r p q) (hm : m.Ck) (s : PS) (h : s.Gd) (hv : s.vs.length ≤ 900000) (hc : s.cs.length ≤ 900000) (x : Ins) (hx : x.Ck) (h11 : x.op = 11 → 2 ≤ s.cs.length) : SCall Tryz.prog 38 [.ptr r 0, .agg (iv .any x)] (ckS r p q m lv s)
    (fun y σ => ∃ e f, Nm r e f ∧ y = .bool (controlP m s x).1 ∧ σ = ckS r e f m lv (controlP m s x).2) := by
  have hN0 := hN
  obtain ⟨n1, n2, n3⟩ := hN
  unfold iv
  refine scall_of (n := 133) (ks := [0, 1, 3, 4, 5, 6, 8, 9, 13, 15, 24, 34, 41, 60, 70, 84, 89, 103, 113]) Tryz.func38 rfl rfl (Nat.le_of_ble_eq_true rfl) ?_
  unfold ckS ckC
  (try dsimp only)
  refine sq3 ?_
  apply bx; rfl; rfl; (exact zcT); rfl; refine freshT fun r3 h3 => ?_; repeat rcases h3 with ⟨_, h3⟩
  refine sq41 ?_
  refine leT ?_
  refine sq24 ?_
  refine sw_cond rfl (fun g3 => ?_) (fun g3 => ?_)
  · rw [show controlP m s x = (true, deadP s) by unfold controlP; simp only [g3, if_true]]
    have hL := hN0
    refine sq7 ?_
    refine cw (ckS r p q m lv s) Tryz.call56 (ck_dead hN0 s h) rfl argsleT stleS ?_
    rintro _ σ' rfl h12
    unfold ckS ckC; (try dsimp only)
    apply rs_sto; exact nflT
    refine sq79 ?_
    apply aend; exact resT
    · exact ⟨_, _, hL, rfl, rfl⟩
    · exact stleT
  refine sq24 ?_
  refine sw_cond rfl (fun g5 => ?_) (fun g5 => ?_)
  · rw [show controlP m s x = (true, s) by unfold controlP; simp only [g3, g5, if_true, if_false, Bool.false_eq_true]]
    have hL := hN0
    refine sq8 ?_
    apply aend; exact resT
    · exact ⟨_, _, hL, rfl, rfl⟩
    · exact stleT
  refine sq24 ?_
  apply sw_orr rfl; exact fdelT
  · intro _; (refine ctlT ?_)
    refine sq42 ?_
    exact sgoT
  refine ctlT ?_
  refine sw_cond rfl (fun g6 => ?_) (fun g6 => ?_)
  · refine ctlT ?_
    rw [show controlP m s x = (true, openP s x.op x.a) by unfold controlP; simp only [g3, g5, g6, if_true, if_false, Bool.false_eq_true]]
    refine sq93 ?_
    refine sq11 ?_
    refine cw (ckS r p q m lv s) Tryz.call37 (ck_open hN0 s h.bc x.op x.a) rfl argsleT stleS ?_
    rintro _ σ' ⟨f, hL, rfl⟩ h23
    unfold ckS ckC; (try dsimp only)
    obtain ⟨e1, e2, e3⟩ := id hL
    apply rs_sto; exact nflT
    refine sq79 ?_
    apply aend; exact resT
    · exact ⟨_, _, hL, rfl, rfl⟩
    · exact stleT
  refine sq24 ?_
  refine sw_cond rfl (fun g9 => ?_) (fun g9 => ?_)
  · have h1 := h.pop 1
    rw [show controlP m s x = (true, openP (popP s 1).2 x.op x.a) by unfold controlP; simp only [g3, g5, g6, g9, if_true, if_false, Bool.false_eq_true]]
    refine sq7 ?_
    refine cw (ckS r p q m lv s) Tryz.call57 (ck_pop hN0 s h 1) rfl argsleT stleS ?_
    rintro _ σ' ⟨rfl, rfl⟩ h27
    unfold ckS ckC; (try dsimp only)
    apply rs_sto; exact nflT
    refine sq27 ?_
    refine sq11 ?_
    refine sq11 ?_
    refine cw (ckS r p q m lv (popP s 1).2) Tryz.call37 (ck_open hN0 _ h1.bc x.op x.a) rfl argsleT stleS ?_
    rintro _ σ' ⟨f, hL, rfl⟩ h33
    unfold ckS ckC; (try dsimp only)
    obtain ⟨e1, e2, e3⟩ := id hL
    apply rs_sto; exact nflT
    refine sq79 ?_
    apply aend; exact resT
    · exact ⟨_, _, hL, rfl, rfl⟩
    · exact stleT
  refine sq24 ?_
  refine sw_cond rfl (fun g12 => ?_) (fun g12 => ?_)
  · rw [show controlP m s x = (true, openP (shutP s) 5 s.top.kd) by unfold controlP; simp only [g3, g5, g6, g9, g12, if_true, if_false, Bool.false_eq_true]]
    refine sq18 ?_
    refine cw (ckS r p q m lv s) Tryz.call40 (ck_shut hN0 s h) rfl argsleT stleS ?_
    rintro _ σ' ⟨rfl, rfl⟩ h38
    unfold ckS ckC; (try dsimp only)
    apply rs_sto; exact nflT
    refine z148 ?_
    refine cw (ckS r p q m lv (shutP s)) Tryz.call37 (ck_open hN0 (shutP s) (by rw [shut_cs, dropLast_len]; omega) 5 s.top.kd) rfl argsleT stleS ?_
    rintro _ σ' ⟨f, hL, rfl⟩ h40
    unfold ckS ckC; (try dsimp only)
    obtain ⟨e1, e2, e3⟩ := id hL
    apply rs_sto; exact nflT
    refine sq79 ?_
    apply aend; exact resT
    · exact ⟨_, _, hL, rfl, rfl⟩
    · exact stleT
  refine sq24 ?_
  refine sw_cond rfl (fun g14 => ?_) (fun g14 => ?_)
  · have h2 := h11 (by simpa using g14)
    have hsl := shut_len s
    have hll := list_len s.top.kd
    rw [show controlP m s x = (true, pushP (needP (shutP s) (if (s.top.op != 4) = true then true else (s.top.kd == 0))) (listP s.top.kd)) by unfold controlP; simp only [g3, g5, g6, g9, g12, g14, if_true, if_false, Bool.false_eq_true]]
    refine sq7 ?_
    refine cw (ckS r p q m lv s) Tryz.call40 (ck_shut hN0 s h) rfl argsleT stleS ?_
    rintro _ σ' ⟨rfl, rfl⟩ h44
    unfold ckS ckC; (try dsimp only)
    apply rs_sto; exact nflT
    apply al; rfl; (exact zcT); refine freshT fun r5 h5 => ?_; repeat rcases h5 with ⟨_, h5⟩
    apply stp; rfl; rfl; rfl; rfl; (exact sputT)
    refine sq27 ?_
    refine sq11 ?_
    refine lo (lop_neq (E rfl) (E rfl)) rfl ?_
    refine sq50 ?_
    refine z112 ?_
    refine z113 ?_
    refine cw (ckS r p q m lv (shutP s)) Tryz.call58 (ck_need hN0 (shutP s) (if (s.top.op != 4) = true then true else (s.top.kd == 0))) rfl argsleT stleS ?_
    rintro _ σ' rfl h54
    unfold ckS ckC; (try dsimp only)
    apply rs_sto; exact nflT
    refine sq27 ?_
    refine sq11 ?_
    refine cw [] Tryz.call60 (check_list s.top.kd) rfl argsleT stleT ?_
    rintro _ σ' ⟨rfl, rfl⟩ h58
    apply rs_sto; exact nflT
    refine cw (ckS r p q m lv (needP (shutP s) (if (s.top.op != 4) = true then true else (s.top.kd == 0)))) Tryz.call59 (ck_push hN0 _ (by rw [need_vs]; omega) (listP s.top.kd) (by omega)) rfl argsleT stleS ?_
    rintro _ σ' ⟨e, hL, rfl⟩ h59
    unfold ckS ckC; (try dsimp only)
    obtain ⟨e1, e2, e3⟩ := id hL
    apply rs_sto; exact nflT
    refine sq79 ?_
    apply aend; exact resT
    · exact ⟨_, _, hL, rfl, rfl⟩
    · exact stleT
  refine sq24 ?_
  refine sw_cond rfl (fun g18 => ?_) (fun g18 => ?_)
  · have ha := hx.nn (.inl (by simpa using g18))
    have h1 := h.label x.a
    have hll := label_len s x.a
    rw [show controlP m s x = (true, deadP (popsP (labelP s x.a).2 (labelP s x.a).1)) by unfold controlP; simp only [g3, g5, g6, g9, g12, g14, g18, if_true, if_false, Bool.false_eq_true]]
    have hL := hN0
    refine sq18 ?_
    refine sq11 ?_
    refine cw (ckS r p q m lv s) Tryz.call62 (ck_label hN0 s h.bc x.a ha) rfl argsleT stleS ?_
    rintro _ σ' ⟨rfl, rfl⟩ h66
    unfold ckS ckC; (try dsimp only)
    apply rs_sto; exact nflT
    refine cw (ckS r p q m lv (labelP s x.a).2) Tryz.call61 (ck_popAll hN0 _ h1 (labelP s x.a).1 (by omega)) rfl argsleT stleS ?_
    rintro _ σ' rfl h67
    unfold ckS ckC; (try dsimp only)
    apply rs_sto; exact nflT
    refine sq27 ?_
    refine cw (ckS r p q m lv (popsP (labelP s x.a).2 (labelP s x.a).1)) Tryz.call56 (ck_dead hN0 _ (h1.pops _)) rfl argsleT stleS ?_
    rintro _ σ' rfl h69
    unfold ckS ckC; (try dsimp only)
    apply rs_sto; exact nflT
    refine sq79 ?_
    apply aend; exact resT
    · exact ⟨_, _, hL, rfl, rfl⟩
    · exact stleT
  refine sq24 ?_
  refine sw_cond rfl (fun g21 => ?_) (fun g21 => ?_)
  · have ha := hx.nn (.inr (.inl (by simpa using g21)))
    have h1 := h.pop 1
    have h2 := h1.label x.a
    have hll := label_len (popP s 1).2 x.a
    rw [show controlP m s x = (true, pushP (popsP (labelP (popP s 1).2 x.a).2 (labelP (popP s 1).2 x.a).1) (labelP (popP s 1).2 x.a).1) by unfold controlP; simp only [g3, g5, g6, g9, g12, g14, g18, g21, if_true, if_false, Bool.false_eq_true]]
    refine sq7 ?_
    refine cw (ckS r p q m lv s) Tryz.call57 (ck_pop hN0 s h 1) rfl argsleT stleS ?_
    rintro _ σ' ⟨rfl, rfl⟩ h73
    unfold ckS ckC; (try dsimp only)
    apply rs_sto; exact nflT
    refine sq27 ?_
    refine sq11 ?_
    refine cw (ckS r p q m lv (popP s 1).2) Tryz.call62 (ck_label hN0 _ h1.bc x.a ha) rfl argsleT stleS ?_
    rintro _ σ' ⟨rfl, rfl⟩ h77
    unfold ckS ckC; (try dsimp only)
    apply rs_sto; exact nflT
    refine sq64 ?_
    refine cw (ckS r p q m lv (labelP (popP s 1).2 x.a).2) Tryz.call61 (ck_popAll hN0 _ h2 (labelP (popP s 1).2 x.a).1 (by omega)) rfl argsleT stleS ?_
    rintro _ σ' rfl h80
    unfold ckS ckC; (try dsimp only)
    apply rs_sto; exact nflT
    refine sq49 ?_
    refine cw (ckS r p q m lv (popsP (labelP (popP s 1).2 x.a).2 (labelP (popP s 1).2 x.a).1)) Tryz.call59 (ck_push hN0 _ (h2.pops _).bv (labelP (popP s 1).2 x.a).1 (by omega)) rfl argsleT stleS ?_
    rintro _ σ' ⟨e, hL, rfl⟩ h83
    unfold ckS ckC; (try dsimp only)
    obtain ⟨e1, e2, e3⟩ := id hL
    apply rs_sto; exact nflT
    refine sq79 ?_
    apply aend; exact resT
    · exact ⟨_, _, hL, rfl, rfl⟩
    · exact stleT
  refine sq24 ?_
  refine sw_cond rfl (fun g26 => ?_) (fun g26 => ?_)
  · have h14 : x.op = 14 := by simpa using g26
    have ha := hx.nn (.inr (.inr (.inl h14)))
    rw [show controlP m s x = (true, tableP s x) by unfold controlP; simp only [g3, g5, g6, g9, g12, g14, g18, g21, g26, if_true, if_false, Bool.false_eq_true]]
    have hL := hN0
    refine sq7 ?_
    refine z99 ?_
    refine cw (ckS r p q m lv s) Tryz.call63 (ck_table hN0 s h x ha (hx.ln h14) hx.ll) rfl argsleT stleS ?_
    rintro _ σ' rfl h88
    unfold ckS ckC; (try dsimp only)
    apply rs_sto; exact nflT
    refine sq79 ?_
    apply aend; exact resT
    · exact ⟨_, _, hL, rfl, rfl⟩
    · exact stleT
  refine sq24 ?_
  refine sw_cond rfl (fun g28 => ?_) (fun g28 => ?_)
  · obtain ⟨c0, hc0⟩ : ∃ c0, s.cs[0]? = some c0 := ⟨_, List.getElem?_eq_getElem (List.length_pos_iff.2 h.ne)⟩
    have hlp : 0 < s.cs.length := List.length_pos_iff.2 h.ne
    have hel : (s.cs.map encCt)[(0 : Int).toNat]? = some (encCt c0) := by rw [List.getElem?_map]; show (s.cs[0]?).map encCt = _; rw [hc0]; rfl
    have hll := list_len c0.kd
    have h1 := h.pops (listP c0.kd)
    rw [show controlP m s x = (true, deadP (popsP s (listP c0.kd))) by unfold controlP; simp only [g3, g5, g6, g9, g12, g14, g18, g21, g26, g28, if_true, if_false, Bool.false_eq_true]; rw [List.getD_eq_getElem?_getD, hc0]; rfl]
    have hL := hN0
    refine sq18 ?_
    refine sq38 ?_
    refine z15 ?_
    refine z117 ?_
    refine z16 ?_
    refine cw [] Tryz.call60 (check_list c0.kd) rfl argsleT stleT ?_
    rintro _ σ' ⟨rfl, rfl⟩ h99
    apply rs_sto; exact nflT
    refine cw (ckS r p q m lv s) Tryz.call61 (ck_popAll hN0 s h (listP c0.kd) (by omega)) rfl argsleT stleS ?_
    rintro _ σ' rfl h100
    unfold ckS ckC; (try dsimp only)
    apply rs_sto; exact nflT
    refine sq27 ?_
    refine cw (ckS r p q m lv (popsP s (listP c0.kd))) Tryz.call56 (ck_dead hN0 _ h1) rfl argsleT stleS ?_
    rintro _ σ' rfl h102
    unfold ckS ckC; (try dsimp only)
    apply rs_sto; exact nflT
    refine sq79 ?_
    apply aend; exact resT
    · exact ⟨_, _, hL, rfl, rfl⟩
    · exact stleT
  refine sq24 ?_
  refine sw_cond rfl (fun g31 => ?_) (fun g31 => ?_)
  · have ha := hx.nn (.inr (.inr (.inr (.inl (by simpa using g31)))))
    have hts := typeOf_sm hm.ts (fnTyP m x.a)
    rw [show controlP m s x = (true, callsP s (typeOfP m (fnTyP m x.a)).1 (typeOfP m (fnTyP m x.a)).2) by unfold controlP; simp only [g3, g5, g6, g9, g12, g14, g18, g21, g26, g28, g31, if_true, if_false, Bool.false_eq_true]]
    refine sq18 ?_
    refine sq11 ?_
    refine cw (ckS r p q m lv s) Tryz.call65 (ck_funcType hN0 s hm.im x.a ha hx.hi) rfl argsleT stleS ?_
    rintro _ σ' ⟨rfl, rfl⟩ h109
    unfold ckS ckC; (try dsimp only)
    apply rs_sto; exact nflT
    refine sq16 ?_
    refine cw (ckS r p q m lv s) Tryz.call64 (ck_calls hN0 s h _ hts _) rfl argsleT stleS ?_
    rintro _ σ' ⟨e, hL, rfl⟩ h112
    unfold ckS ckC; (try dsimp only)
    obtain ⟨e1, e2, e3⟩ := id hL
    apply rs_sto; exact nflT
    refine sq79 ?_
    apply aend; exact resT
    · exact ⟨_, _, hL, rfl, rfl⟩
    · exact stleT
  refine sq24 ?_
  refine sw_cond rfl (fun g33 => ?_) (fun g33 => ?_)
  · have hts := typeOf_sm hm.ts x.a
    have h1 := h.need m.tb.has
    have h2 := h1.pop 1
    rw [show controlP m s x = (true, callsP (popP (needP s m.tb.has) 1).2 (typeOfP m x.a).1 (typeOfP m x.a).2) by unfold controlP; simp only [g3, g5, g6, g9, g12, g14, g18, g21, g26, g28, g31, g33, if_true, if_false, Bool.false_eq_true]]
    refine sq18 ?_
    refine sq39 ?_
    refine z59 ?_
    refine sq11 ?_
    refine cw (ckS r p q m lv s) Tryz.call58 (ck_need hN0 s m.tb.has) rfl argsleT stleS ?_
    rintro _ σ' rfl h122
    unfold ckS ckC; (try dsimp only)
    apply rs_sto; exact nflT
    refine sq27 ?_
    refine cw (ckS r p q m lv (needP s m.tb.has)) Tryz.call57 (ck_pop hN0 _ h1 1) rfl argsleT stleS ?_
    rintro _ σ' ⟨rfl, rfl⟩ h124
    unfold ckS ckC; (try dsimp only)
    apply rs_sto; exact nflT
    refine sq49 ?_
    refine sq11 ?_
    refine cw (ckS r p q m lv (popP (needP s m.tb.has) 1).2) Tryz.call35 (ck_typeOf hN0 _ x.a) rfl argsleT stleS ?_
    rintro _ σ' ⟨rfl, rfl⟩ h129
    unfold ckS ckC; (try dsimp only)
    apply rs_sto; exact nflT
    refine sq16 ?_
    refine cw (ckS r p q m lv (popP (needP s m.tb.has) 1).2) Tryz.call64 (ck_calls hN0 _ h2 _ hts _) rfl argsleT stleS ?_
    rintro _ σ' ⟨e, hL, rfl⟩ h132
    unfold ckS ckC; (try dsimp only)
    obtain ⟨e1, e2, e3⟩ := id hL
    apply rs_sto; exact nflT
    refine sq79 ?_
    apply aend; exact resT
    · exact ⟨_, _, hL, rfl, rfl⟩
    · exact stleT
  rw [show controlP m s x = (false, s) by unfold controlP; simp only [g3, g5, g6, g9, g12, g14, g18, g21, g26, g28, g31, g33, if_true, if_false, Bool.false_eq_true]]
  have hL := hN0
  refine sq8 ?_
  apply aend; exact resT
  · exact ⟨_, _, hL, rfl, rfl⟩
  · exact stleT
end
/-
  Package check: an instruction that goes on.
-/
theorem kN_no {op : Int} (h : (kN op).2.2 = false) : kN op = ([], 0, false) := by
  revert h
  unfold kN
  refine ite_p (p := fun r : List Int × Int × Bool => r.2.2 = false → r = ([], 0, false)) (fun _ h => by cases h) (fun _ => ?_)
  refine ite_p (p := fun r : List Int × Int × Bool => r.2.2 = false → r = ([], 0, false)) (fun _ h => by cases h) (fun _ => ?_)
  refine ite_p (p := fun r : List Int × Int × Bool => r.2.2 = false → r = ([], 0, false)) (fun _ _ => rfl) (fun _ => ?_)
  refine ite_p (p := fun r : List Int × Int × Bool => r.2.2 = false → r = ([], 0, false)) (fun _ h => by cases h) (fun _ => ?_)
  refine ite_p (p := fun r : List Int × Int × Bool => r.2.2 = false → r = ([], 0, false)) (fun _ h => by cases h) (fun _ => ?_)
  exact ite_p (p := fun r : List Int × Int × Bool => r.2.2 = false → r = ([], 0, false)) (fun _ h => by cases h) (fun _ h => by cases h)
theorem kN_len (op : Int) : (kN op).1.length ≤ 2 := by
  unfold kN
  refine ite_p (p := fun r : List Int × Int × Bool => r.1.length ≤ 2) (fun _ => by simp) (fun _ => ?_)
  refine ite_p (p := fun r : List Int × Int × Bool => r.1.length ≤ 2) (fun _ => by simp) (fun _ => ?_)
  refine ite_p (p := fun r : List Int × Int × Bool => r.1.length ≤ 2) (fun _ => by simp) (fun _ => ?_)
  refine ite_p (p := fun r : List Int × Int × Bool => r.1.length ≤ 2) (fun _ => by simp) (fun _ => ?_)
  refine ite_p (p := fun r : List Int × Int × Bool => r.1.length ≤ 2) (fun _ => by simp) (fun _ => ?_)
  exact ite_p (p := fun r : List Int × Int × Bool => r.1.length ≤ 2) (fun _ => by simp) (fun _ => by simp)
theorem kinds_yes {op : Int} (h : (kN op).2.2 = true) : SCall Tryz.prog 69 [.int .i64 op] [] (fun y σ => ∃ q, y = .tup [.own q 0 (kN op).1.length, .int .i64 (kN op).2.1, .bool true] ∧ σ = [(q, .arr 3 1 ((kN op).1.map encI))]) :=
  (ints_kinds op).mono fun x σ hk => by unfold kindsR at hk; rw [if_pos h] at hk; exact hk
theorem kinds_no {op : Int} (h : (kN op).2.2 = false) : SCall Tryz.prog 69 [.int .i64 op] [] (fun y σ => y = .tup [.ro 0 [] .nil, .int .i64 0, .bool false] ∧ σ = []) :=
  (ints_kinds op).mono fun x σ hk => by unfold kindsR at hk; rw [if_neg (by simp [h])] at hk; exact hk
theorem PS.Gd.loc {s : PS} (h : s.Gd) (ls : List Int) (n : Int) : (localP ls s n).2.Gd := by
  unfold localP
  exact ite_p (p := fun r : Int × PS => r.2.Gd) (fun _ => ⟨⟨⟨h.le, h.up⟩, h.ne⟩, h.bv, h.bc⟩) (fun _ => h)
theorem PS.Gd.glob {s : PS} (h : s.Gd) (m : Md) (n : Int) : (globalP m s n).2.Gd := by
  unfold globalP
  exact ite_p (p := fun r : Gl × PS => r.2.Gd) (fun _ => ⟨⟨⟨h.le, h.up⟩, h.ne⟩, h.bv, h.bc⟩) (fun _ => h)
section
variable {r p q : Nat} {m : Md} {ls : List Int}
theorem ck_plain (hN : Nm r p q) (s : PS) (h : s.Gd) (x : Ins) (hx : x.Ck) : SCall Tryz.prog 39 [.ptr r 0, .agg (iv .any x)] (ckS r p q m (.ro 1 (ls.map encI) .any) s) (fun _ σ => ∃ e, Nm r e q ∧ σ = ckS r e q m (.ro 1 (ls.map encI) .any) (plainP m ls s x)) := by
  have hN0 := hN
  obtain ⟨n1, n2, n3⟩ := hN
  unfold iv
  refine scall_of (n := 167) (ks := [0, 1, 3, 4, 5, 6, 7, 8, 9, 13, 31, 35, 46, 55, 63, 78, 89, 104, 111, 118, 126, 132, 138, 144, 150, 157, 162]) Tryz.func39 rfl rfl (Nat.le_of_ble_eq_true rfl) ?_
  unfold ckS ckC
  (try dsimp only)
  refine sq3 ?_
  apply bx; rfl; rfl; (exact zcT); rfl; refine freshT fun r3 h3 => ?_; repeat rcases h3 with ⟨_, h3⟩
  refine sq75 ?_
  refine z1 ?_; refine freshT fun r10 h10 => ?_; repeat rcases h10 with ⟨_, h10⟩
  refine z1 ?_; refine freshT fun r11 h11 => ?_; repeat rcases h11 with ⟨_, h11⟩
  refine fzv (j := 10) rfl sdelT (bor_own sgT (by simp)) ?_
  refine fzv (j := 11) rfl sdelT (bor_own sgT (by simp)) ?_
  refine sq12 ?_
  refine rgT ?_
  refine sq11 ?_
  refine leT ?_
  refine sq24 ?_
  refine sw_cond rfl (fun g7 => ?_) (fun g7 => ?_)
  · rw [show plainP m ls s x = (popP s 0).2 by unfold plainP; simp only [g7, if_true, if_false, Bool.false_eq_true]]
    have hL := hN0
    refine sq7 ?_
    refine cw (ckS r p q m (.ro 1 (ls.map encI) .any) s) Tryz.call57 (ck_pop hN0 s h 0) rfl argsleT stleS ?_
    rintro _ σ' ⟨rfl, rfl⟩ h34
    unfold ckS ckC; (try dsimp only)
    apply rs_sto; exact nflT
    refine sq4 ?_
    refine aend_n ?_
    apply aend; exact resT
    · exact ⟨_, hL, rfl⟩
    · exact stleT
  refine sq24 ?_
  refine sw_cond rfl (fun g9 => ?_) (fun g9 => ?_)
  · have h1 := h.pop 1
    have h2 := h1.pop 0
    have h3 := h2.pop (popP (popP s 1).2 0).1
    rw [show plainP m ls s x = pushP (popP (popP (popP s 1).2 0).2 (popP (popP s 1).2 0).1).2 [(popP (popP (popP s 1).2 0).2 (popP (popP s 1).2 0).1).1] by unfold plainP; simp only [g7, g9, if_true, if_false, Bool.false_eq_true]]
    refine sq7 ?_
    refine cw (ckS r p q m (.ro 1 (ls.map encI) .any) s) Tryz.call57 (ck_pop hN0 s h 1) rfl argsleT stleS ?_
    rintro _ σ' ⟨rfl, rfl⟩ h38
    unfold ckS ckC; (try dsimp only)
    apply rs_sto; exact nflT
    refine sq49 ?_
    refine lo (lop_move (E rfl)) rfl ?_
    refine cw (ckS r p q m (.ro 1 (ls.map encI) .any) (popP s 1).2) Tryz.call57 (ck_pop hN0 _ h1 0) rfl argsleT stleS ?_
    rintro _ σ' ⟨rfl, rfl⟩ h42
    unfold ckS ckC; (try dsimp only)
    apply rs_sto; exact nflT
    refine cw (ckS r p q m (.ro 1 (ls.map encI) .any) (popP (popP s 1).2 0).2) Tryz.call57 (ck_pop hN0 _ h2 _) rfl argsleT stleS ?_
    rintro _ σ' ⟨rfl, rfl⟩ h43
    unfold ckS ckC; (try dsimp only)
    apply rs_sto; exact nflT
    refine z1 ?_; refine freshT fun r44 h44 => ?_; repeat rcases h44 with ⟨_, h44⟩
    refine fzv (j := 44) rfl sdelT (bor_own sgT (by simp)) ?_
    refine cw (ckS r p q m (.ro 1 (ls.map encI) .any) (popP (popP (popP s 1).2 0).2 (popP (popP s 1).2 0).1).2) Tryz.call59 (ck_push hN0 _ h3.bv [(popP (popP (popP s 1).2 0).2 (popP (popP s 1).2 0).1).1] (by simp)) rfl argsleT stleS ?_
    rintro _ σ' ⟨e, hL, rfl⟩ h45
    unfold ckS ckC; (try dsimp only)
    obtain ⟨e1, e2, e3⟩ := id hL
    apply rs_sto; exact nflT
    refine sq4 ?_
    refine aend_n ?_
    apply aend; exact resT
    · exact ⟨_, hL, rfl⟩
    · exact stleT
  refine sq24 ?_
  refine sw_cond rfl (fun g12 => ?_) (fun g12 => ?_)
  · have ha := hx.nn (.inr (.inr (.inr (.inr (.inl (by simpa using g12))))))
    have h1 := h.loc ls x.a
    rw [show plainP m ls s x = pushP (localP ls s x.a).2 [(localP ls s x.a).1] by unfold plainP; simp only [g7, g9, g12, if_true, if_false, Bool.false_eq_true]]
    refine sq18 ?_
    refine sq11 ?_
    refine cw (ckS r p q m (.ro 1 (ls.map encI) .any) s) Tryz.call66 (ck_local hN0 s x.a ha) rfl argsleT stleS ?_
    rintro _ σ' ⟨rfl, rfl⟩ h52
    unfold ckS ckC; (try dsimp only)
    apply rs_sto; exact nflT
    refine z1 ?_; refine freshT fun r53 h53 => ?_; repeat rcases h53 with ⟨_, h53⟩
    refine fzv (j := 53) rfl sdelT (bor_own sgT (by simp)) ?_
    refine cw (ckS r p q m (.ro 1 (ls.map encI) .any) (localP ls s x.a).2) Tryz.call59 (ck_push hN0 _ h1.bv [(localP ls s x.a).1] (by simp)) rfl argsleT stleS ?_
    rintro _ σ' ⟨e, hL, rfl⟩ h54
    unfold ckS ckC; (try dsimp only)
    obtain ⟨e1, e2, e3⟩ := id hL
    apply rs_sto; exact nflT
    refine sq4 ?_
    refine aend_n ?_
    apply aend; exact resT
    · exact ⟨_, hL, rfl⟩
    · exact stleT
  refine sq24 ?_
  refine sw_cond rfl (fun g14 => ?_) (fun g14 => ?_)
  · have ha := hx.nn (.inr (.inr (.inr (.inr (.inr (.inl (by simpa using g14)))))))
    have h1 := h.loc ls x.a
    have hL := hN0
    rw [show plainP m ls s x = (popP (localP ls s x.a).2 (localP ls s x.a).1).2 by unfold plainP; simp only [g7, g9, g12, g14, if_true, if_false, Bool.false_eq_true]]
    refine sq18 ?_
    refine sq11 ?_
    refine cw (ckS r p q m (.ro 1 (ls.map encI) .any) s) Tryz.call66 (ck_local hN0 s x.a ha) rfl argsleT stleS ?_
    rintro _ σ' ⟨rfl, rfl⟩ h61
    unfold ckS ckC; (try dsimp only)
    apply rs_sto; exact nflT
    refine cw (ckS r p q m (.ro 1 (ls.map encI) .any) (localP ls s x.a).2) Tryz.call57 (ck_pop hN0 _ h1 _) rfl argsleT stleS ?_
    rintro _ σ' ⟨rfl, rfl⟩ h62
    unfold ckS ckC; (try dsimp only)
    apply rs_sto; exact nflT
    refine sq4 ?_
    refine aend_n ?_
    apply aend; exact resT
    · exact ⟨_, hL, rfl⟩
    · exact stleT
  refine sq24 ?_
  refine sw_cond rfl (fun g16 => ?_) (fun g16 => ?_)
  · have ha := hx.nn (.inr (.inr (.inr (.inr (.inr (.inr (.inl (by simpa using g16))))))))
    have h1 := h.loc ls x.a
    have h2 := h1.pop (localP ls s x.a).1
    have h3 := h2.loc ls x.a
    rw [show plainP m ls s x = pushP (localP ls (popP (localP ls s x.a).2 (localP ls s x.a).1).2 x.a).2 [(localP ls (popP (localP ls s x.a).2 (localP ls s x.a).1).2 x.a).1] by unfold plainP; simp only [g7, g9, g12, g14, g16, if_true, if_false, Bool.false_eq_true]]
    refine sq18 ?_
    refine sq11 ?_
    refine cw (ckS r p q m (.ro 1 (ls.map encI) .any) s) Tryz.call66 (ck_local hN0 s x.a ha) rfl argsleT stleS ?_
    rintro _ σ' ⟨rfl, rfl⟩ h69
    unfold ckS ckC; (try dsimp only)
    apply rs_sto; exact nflT
    refine cw (ckS r p q m (.ro 1 (ls.map encI) .any) (localP ls s x.a).2) Tryz.call57 (ck_pop hN0 _ h1 _) rfl argsleT stleS ?_
    rintro _ σ' ⟨rfl, rfl⟩ h70
    unfold ckS ckC; (try dsimp only)
    apply rs_sto; exact nflT
    refine sq49 ?_
    refine sq11 ?_
    refine cw (ckS r p q m (.ro 1 (ls.map encI) .any) (popP (localP ls s x.a).2 (localP ls s x.a).1).2) Tryz.call66 (ck_local hN0 _ x.a ha) rfl argsleT stleS ?_
    rintro _ σ' ⟨rfl, rfl⟩ h75
    unfold ckS ckC; (try dsimp only)
    apply rs_sto; exact nflT
    refine z1 ?_; refine freshT fun r76 h76 => ?_; repeat rcases h76 with ⟨_, h76⟩
    refine fzv (j := 76) rfl sdelT (bor_own sgT (by simp)) ?_
    refine cw (ckS r p q m (.ro 1 (ls.map encI) .any) (localP ls (popP (localP ls s x.a).2 (localP ls s x.a).1).2 x.a).2) Tryz.call59 (ck_push hN0 _ h3.bv [(localP ls (popP (localP ls s x.a).2 (localP ls s x.a).1).2 x.a).1] (by simp)) rfl argsleT stleS ?_
    rintro _ σ' ⟨e, hL, rfl⟩ h77
    unfold ckS ckC; (try dsimp only)
    obtain ⟨e1, e2, e3⟩ := id hL
    apply rs_sto; exact nflT
    refine sq4 ?_
    refine aend_n ?_
    apply aend; exact resT
    · exact ⟨_, hL, rfl⟩
    · exact stleT
  refine sq24 ?_
  refine sw_cond rfl (fun g19 => ?_) (fun g19 => ?_)
  · have ha := hx.nn (.inr (.inr (.inr (.inr (.inr (.inr (.inr (.inl (by simpa using g19)))))))))
    have h1 := h.glob m x.a
    rw [show plainP m ls s x = pushP (globalP m s x.a).2 [(globalP m s x.a).1.kd] by unfold plainP; simp only [g7, g9, g12, g14, g16, g19, if_true, if_false, Bool.false_eq_true]]
    refine sq18 ?_
    refine sq11 ?_
    refine cw (ckS r p q m (.ro 1 (ls.map encI) .any) s) Tryz.call67 (ck_global hN0 s x.a ha) rfl argsleT stleS ?_
    rintro _ σ' ⟨rfl, rfl⟩ h84
    unfold ckS ckC; (try dsimp only)
    apply rs_sto; exact nflT
    refine lo (lop_fld_agg (E rfl) rfl rfl (fun _ => Nat.le_of_ble_eq_true rfl)) rfl ?_
    refine z148 ?_
    refine z1 ?_; refine freshT fun r87 h87 => ?_; repeat rcases h87 with ⟨_, h87⟩
    refine fzv (j := 87) rfl sdelT (bor_own sgT (by simp)) ?_
    refine cw (ckS r p q m (.ro 1 (ls.map encI) .any) (globalP m s x.a).2) Tryz.call59 (ck_push hN0 _ h1.bv [(globalP m s x.a).1.kd] (by simp)) rfl argsleT stleS ?_
    rintro _ σ' ⟨e, hL, rfl⟩ h88
    unfold ckS ckC; (try dsimp only)
    obtain ⟨e1, e2, e3⟩ := id hL
    apply rs_sto; exact nflT
    refine sq4 ?_
    refine aend_n ?_
    apply aend; exact resT
    · exact ⟨_, hL, rfl⟩
    · exact stleT
  refine sq24 ?_
  refine sw_cond rfl (fun g21 => ?_) (fun g21 => ?_)
  · have ha := hx.nn (.inr (.inr (.inr (.inr (.inr (.inr (.inr (.inr (by simpa using g21)))))))))
    have h1 := h.glob m x.a
    have h2 := h1.need (globalP m s x.a).1.mu
    have hL := hN0
    rw [show plainP m ls s x = (popP (needP (globalP m s x.a).2 (globalP m s x.a).1.mu) (globalP m s x.a).1.kd).2 by unfold plainP; simp only [g7, g9, g12, g14, g16, g19, g21, if_true, if_false, Bool.false_eq_true]]
    refine sq7 ?_
    refine sq11 ?_
    refine cw (ckS r p q m (.ro 1 (ls.map encI) .any) s) Tryz.call67 (ck_global hN0 s x.a ha) rfl argsleT stleS ?_
    rintro _ σ' ⟨rfl, rfl⟩ h94
    unfold ckS ckC; (try dsimp only)
    apply rs_sto; exact nflT
    apply al; rfl; (exact zcT); refine freshT fun r6 h6 => ?_; repeat rcases h6 with ⟨_, h6⟩
    apply stp; rfl; rfl; rfl; rfl; (exact sputT)
    refine sq27 ?_
    refine sq11 ?_
    refine cw (ckS r p q m (.ro 1 (ls.map encI) .any) (globalP m s x.a).2) Tryz.call58 (ck_need hN0 _ (globalP m s x.a).1.mu) rfl argsleT stleS ?_
    rintro _ σ' rfl h98
    unfold ckS ckC; (try dsimp only)
    apply rs_sto; exact nflT
    refine sq27 ?_
    refine z59 ?_
    refine sq11 ?_
    refine cw (ckS r p q m (.ro 1 (ls.map encI) .any) (needP (globalP m s x.a).2 (globalP m s x.a).1.mu)) Tryz.call57 (ck_pop hN0 _ h2 _) rfl argsleT stleS ?_
    rintro _ σ' ⟨rfl, rfl⟩ h103
    unfold ckS ckC; (try dsimp only)
    apply rs_sto; exact nflT
    refine sq4 ?_
    refine aend_n ?_
    apply aend; exact resT
    · exact ⟨_, hL, rfl⟩
    · exact stleT
  refine sq24 ?_
  refine sw_cond rfl (fun g25 => ?_) (fun g25 => ?_)
  · rw [show plainP m ls s x = accessP m s x 2 [1] [1] by unfold plainP; simp only [g7, g9, g12, g14, g16, g19, g21, g25, if_true, if_false, Bool.false_eq_true]]
    refine sq7 ?_
    refine z99 ?_
    refine sq51 ?_
    refine cw (ckS r p q m (.ro 1 (ls.map encI) .any) s) Tryz.call68 (ck_access hN0 s h x 2 [1] [1] (by simp) (by simp)) rfl argsleT stleS ?_
    rintro _ σ' ⟨e, hL, rfl⟩ h110
    unfold ckS ckC; (try dsimp only)
    obtain ⟨e1, e2, e3⟩ := id hL
    apply rs_sto; exact nflT
    refine sq4 ?_
    refine aend_n ?_
    apply aend; exact resT
    · exact ⟨_, hL, rfl⟩
    · exact stleT
  refine sq24 ?_
  refine sw_cond rfl (fun g27 => ?_) (fun g27 => ?_)
  · rw [show plainP m ls s x = accessP m s x 3 [1] [2] by unfold plainP; simp only [g7, g9, g12, g14, g16, g19, g21, g25, g27, if_true, if_false, Bool.false_eq_true]]
    refine sq7 ?_
    refine z99 ?_
    refine sq51 ?_
    refine cw (ckS r p q m (.ro 1 (ls.map encI) .any) s) Tryz.call68 (ck_access hN0 s h x 3 [1] [2] (by simp) (by simp)) rfl argsleT stleS ?_
    rintro _ σ' ⟨e, hL, rfl⟩ h117
    unfold ckS ckC; (try dsimp only)
    obtain ⟨e1, e2, e3⟩ := id hL
    apply rs_sto; exact nflT
    refine sq4 ?_
    refine aend_n ?_
    apply aend; exact resT
    · exact ⟨_, hL, rfl⟩
    · exact stleT
  refine sq24 ?_
  apply sw_orr rfl; exact fdelT
  · intro _; (refine ctlT ?_)
    refine sq42 ?_
    exact sgoT
  refine ctlT ?_
  refine sw_cond rfl (fun g29 => ?_) (fun g29 => ?_)
  · refine ctlT ?_
    rw [show plainP m ls s x = accessP m s x 0 [1] [1] by unfold plainP; simp only [g7, g9, g12, g14, g16, g19, g21, g25, g27, g29, if_true, if_false, Bool.false_eq_true]]
    refine sq1 ?_
    refine z99 ?_
    refine sq51 ?_
    refine cw (ckS r p q m (.ro 1 (ls.map encI) .any) s) Tryz.call68 (ck_access hN0 s h x 0 [1] [1] (by simp) (by simp)) rfl argsleT stleS ?_
    rintro _ σ' ⟨e, hL, rfl⟩ h125
    unfold ckS ckC; (try dsimp only)
    obtain ⟨e1, e2, e3⟩ := id hL
    apply rs_sto; exact nflT
    refine sq4 ?_
    refine aend_n ?_
    apply aend; exact resT
    · exact ⟨_, hL, rfl⟩
    · exact stleT
  refine sq24 ?_
  refine sw_cond rfl (fun g32 => ?_) (fun g32 => ?_)
  · rw [show plainP m ls s x = accessP m s x 2 [1, 1] [] by unfold plainP; simp only [g7, g9, g12, g14, g16, g19, g21, g25, g27, g29, g32, if_true, if_false, Bool.false_eq_true]]
    refine sq7 ?_
    refine z99 ?_
    refine z1 ?_; refine freshT fun r130 h130 => ?_; repeat rcases h130 with ⟨_, h130⟩
    refine fzv (j := 130) rfl sdelT (bor_own sgT (by simp)) ?_
    refine cw (ckS r p q m (.ro 1 (ls.map encI) .any) s) Tryz.call68 (ck_access hN0 s h x 2 [1, 1] [] (by simp) (by simp)) rfl argsleT stleS ?_
    rintro _ σ' ⟨e, hL, rfl⟩ h131
    unfold ckS ckC; (try dsimp only)
    obtain ⟨e1, e2, e3⟩ := id hL
    apply rs_sto; exact nflT
    refine sq4 ?_
    refine aend_n ?_
    apply aend; exact resT
    · exact ⟨_, hL, rfl⟩
    · exact stleT
  refine sq24 ?_
  refine sw_cond rfl (fun g34 => ?_) (fun g34 => ?_)
  · rw [show plainP m ls s x = accessP m s x 3 [1, 2] [] by unfold plainP; simp only [g7, g9, g12, g14, g16, g19, g21, g25, g27, g29, g32, g34, if_true, if_false, Bool.false_eq_true]]
    refine sq7 ?_
    refine z99 ?_
    refine z1 ?_; refine freshT fun r136 h136 => ?_; repeat rcases h136 with ⟨_, h136⟩
    refine fzv (j := 136) rfl sdelT (bor_own sgT (by simp)) ?_
    refine cw (ckS r p q m (.ro 1 (ls.map encI) .any) s) Tryz.call68 (ck_access hN0 s h x 3 [1, 2] [] (by simp) (by simp)) rfl argsleT stleS ?_
    rintro _ σ' ⟨e, hL, rfl⟩ h137
    unfold ckS ckC; (try dsimp only)
    obtain ⟨e1, e2, e3⟩ := id hL
    apply rs_sto; exact nflT
    refine sq4 ?_
    refine aend_n ?_
    apply aend; exact resT
    · exact ⟨_, hL, rfl⟩
    · exact stleT
  refine sq24 ?_
  refine sw_cond rfl (fun g36 => ?_) (fun g36 => ?_)
  · rw [show plainP m ls s x = accessP m s x 0 [1, 1] [] by unfold plainP; simp only [g7, g9, g12, g14, g16, g19, g21, g25, g27, g29, g32, g34, g36, if_true, if_false, Bool.false_eq_true]]
    refine sq7 ?_
    refine z99 ?_
    refine z1 ?_; refine freshT fun r142 h142 => ?_; repeat rcases h142 with ⟨_, h142⟩
    refine fzv (j := 142) rfl sdelT (bor_own sgT (by simp)) ?_
    refine cw (ckS r p q m (.ro 1 (ls.map encI) .any) s) Tryz.call68 (ck_access hN0 s h x 0 [1, 1] [] (by simp) (by simp)) rfl argsleT stleS ?_
    rintro _ σ' ⟨e, hL, rfl⟩ h143
    unfold ckS ckC; (try dsimp only)
    obtain ⟨e1, e2, e3⟩ := id hL
    apply rs_sto; exact nflT
    refine sq4 ?_
    refine aend_n ?_
    apply aend; exact resT
    · exact ⟨_, hL, rfl⟩
    · exact stleT
  refine sq24 ?_
  refine sw_cond rfl (fun g38 => ?_) (fun g38 => ?_)
  · rw [show plainP m ls s x = accessP m s x 0 [] [1] by unfold plainP; simp only [g7, g9, g12, g14, g16, g19, g21, g25, g27, g29, g32, g34, g36, g38, if_true, if_false, Bool.false_eq_true]]
    refine sq7 ?_
    refine z99 ?_
    refine lo (lop_move (E rfl)) rfl ?_
    refine cw (ckS r p q m (.ro 1 (ls.map encI) .any) s) Tryz.call68 (ck_access hN0 s h x 0 [] [1] (by simp) (by simp)) rfl argsleT stleS ?_
    rintro _ σ' ⟨e, hL, rfl⟩ h149
    unfold ckS ckC; (try dsimp only)
    obtain ⟨e1, e2, e3⟩ := id hL
    apply rs_sto; exact nflT
    refine sq4 ?_
    refine aend_n ?_
    apply aend; exact resT
    · exact ⟨_, hL, rfl⟩
    · exact stleT
  refine sq24 ?_
  refine sw_cond rfl (fun g40 => ?_) (fun g40 => ?_)
  · rw [show plainP m ls s x = accessP m s x 0 [1] [1] by unfold plainP; simp only [g7, g9, g12, g14, g16, g19, g21, g25, g27, g29, g32, g34, g36, g38, g40, if_true, if_false, Bool.false_eq_true]]
    refine sq7 ?_
    refine z99 ?_
    refine sq51 ?_
    refine cw (ckS r p q m (.ro 1 (ls.map encI) .any) s) Tryz.call68 (ck_access hN0 s h x 0 [1] [1] (by simp) (by simp)) rfl argsleT stleS ?_
    rintro _ σ' ⟨e, hL, rfl⟩ h156
    unfold ckS ckC; (try dsimp only)
    obtain ⟨e1, e2, e3⟩ := id hL
    apply rs_sto; exact nflT
    refine sq4 ?_
    refine aend_n ?_
    apply aend; exact resT
    · exact ⟨_, hL, rfl⟩
    · exact stleT
  refine sq24 ?_
  refine sw_cond rfl (fun g42 => ?_) (fun g42 => ?_)
  · rw [show plainP m ls s x = pushP s [1] by unfold plainP; simp only [g7, g9, g12, g14, g16, g19, g21, g25, g27, g29, g32, g34, g36, g38, g40, g42, if_true, if_false, Bool.false_eq_true]]
    refine sq7 ?_
    refine z1 ?_; refine freshT fun r160 h160 => ?_; repeat rcases h160 with ⟨_, h160⟩
    refine fzv (j := 160) rfl sdelT (bor_own sgT (by simp)) ?_
    refine cw (ckS r p q m (.ro 1 (ls.map encI) .any) s) Tryz.call59 (ck_push hN0 s h.bv [1] (by simp)) rfl argsleT stleS ?_
    rintro _ σ' ⟨e, hL, rfl⟩ h161
    unfold ckS ckC; (try dsimp only)
    obtain ⟨e1, e2, e3⟩ := id hL
    apply rs_sto; exact nflT
    refine sq4 ?_
    refine aend_n ?_
    apply aend; exact resT
    · exact ⟨_, hL, rfl⟩
    · exact stleT
  refine sq24 ?_
  refine sw_cond rfl (fun g44 => ?_) (fun g44 => ?_)
  · rw [show plainP m ls s x = pushP s [2] by unfold plainP; simp only [g7, g9, g12, g14, g16, g19, g21, g25, g27, g29, g32, g34, g36, g38, g40, g42, g44, if_true, if_false, Bool.false_eq_true]]
    refine sq7 ?_
    refine z1 ?_; refine freshT fun r165 h165 => ?_; repeat rcases h165 with ⟨_, h165⟩
    refine fzv (j := 165) rfl sdelT (bor_own sgT (by simp)) ?_
    refine cw (ckS r p q m (.ro 1 (ls.map encI) .any) s) Tryz.call59 (ck_push hN0 s h.bv [2] (by simp)) rfl argsleT stleS ?_
    rintro _ σ' ⟨e, hL, rfl⟩ h166
    unfold ckS ckC; (try dsimp only)
    obtain ⟨e1, e2, e3⟩ := id hL
    apply rs_sto; exact nflT
    refine sq4 ?_
    refine aend_n ?_
    apply aend; exact resT
    · exact ⟨_, hL, rfl⟩
    · exact stleT
  have hkl := kN_len x.op
  have h1 := h.need (kN x.op).2.2
  have h2 := h1.pops (kN x.op).1
  rw [show plainP m ls s x = pushP (popsP (needP s (kN x.op).2.2) (kN x.op).1) [(kN x.op).2.1] by unfold plainP; simp only [g7, g9, g12, g14, g16, g19, g21, g25, g27, g29, g32, g34, g36, g38, g40, g42, g44, if_true, if_false, Bool.false_eq_true]]
  refine ctlT ?_
  cases hk : (kN x.op).2.2
  · rw [kN_no hk] at h1 h2 ⊢
    refine rgT ?_
    refine sq11 ?_
    refine cw [] Tryz.call69 (kinds_no hk) rfl argsleT stleT ?_
    rintro _ σ' ⟨rfl, rfl⟩ h17
    apply rs_sto; exact nflT
    refine sq74 ?_
    refine sq23 ?_
    refine sw_go (sgo_vle (j := 7) (y := .ro 1 (([] : List Int).map encI) .any) rfl VLe.empty) ?_
    refine sq5 ?_
    refine cw (ckS r p q m (.ro 1 (ls.map encI) .any) s) Tryz.call58 (ck_need hN0 s false) rfl argsleT stleS ?_
    rintro _ σ' rfl h23
    unfold ckS ckC; (try dsimp only)
    apply rs_sto; exact nflT
    refine sq49 ?_
    refine cw (ckS r p q m (.ro 1 (ls.map encI) .any) (needP s false)) Tryz.call61 (ck_popAll hN0 _ h1 [] (by simp)) rfl argsleT stleS ?_
    rintro _ σ' rfl h26
    unfold ckS ckC; (try dsimp only)
    apply rs_sto; exact nflT
    refine sq49 ?_
    refine z1 ?_; refine freshT fun r29 h29 => ?_; repeat rcases h29 with ⟨_, h29⟩
    refine fzv (j := 29) rfl sdelT (bor_own sgT (by simp)) ?_
    refine cw (ckS r p q m (.ro 1 (ls.map encI) .any) (popsP (needP s false) [])) Tryz.call59 (ck_push hN0 _ h2.bv [0] (by simp)) rfl argsleT stleS ?_
    rintro _ σ' ⟨e, hL, rfl⟩ h30
    unfold ckS ckC; (try dsimp only)
    obtain ⟨e1, e2, e3⟩ := id hL
    apply rs_sto; exact nflT
    refine sq4 ?_
    refine aend_n ?_
    apply aend; exact resT
    · exact ⟨_, hL, rfl⟩
    · exact stleT
  · rw [hk] at h1 h2
    refine rgT ?_
    refine sq11 ?_
    refine cw [] Tryz.call69 (kinds_yes hk) rfl argsleT stleT ?_
    rintro _ σ' ⟨q1, rfl, rfl⟩ h17
    replace h17 := cnewT h17; repeat rcases h17 with ⟨_, h17⟩
    apply rs_sto; exact nflT
    refine sq74 ?_
    refine sq23 ?_
    refine fzvs (j := 7) rfl sdelT (bor_own sgT (by simp)) ?_
    refine sq5 ?_
    refine cw (ckS r p q m (.ro 1 (ls.map encI) .any) s) Tryz.call58 (ck_need hN0 s true) rfl argsleT stleS ?_
    rintro _ σ' rfl h23
    unfold ckS ckC; (try dsimp only)
    apply rs_sto; exact nflT
    refine sq49 ?_
    refine cw (ckS r p q m (.ro 1 (ls.map encI) .any) (needP s true)) Tryz.call61 (ck_popAll hN0 _ h1 (kN x.op).1 (by omega)) rfl argsleT stleS ?_
    rintro _ σ' rfl h26
    unfold ckS ckC; (try dsimp only)
    apply rs_sto; exact nflT
    refine sq49 ?_
    refine z1 ?_; refine freshT fun r29 h29 => ?_; repeat rcases h29 with ⟨_, h29⟩
    refine fzv (j := 29) rfl sdelT (bor_own sgT (by simp)) ?_
    refine cw (ckS r p q m (.ro 1 (ls.map encI) .any) (popsP (needP s true) (kN x.op).1)) Tryz.call59 (ck_push hN0 _ h2.bv [(kN x.op).2.1] (by simp)) rfl argsleT stleS ?_
    rintro _ σ' ⟨e, hL, rfl⟩ h30
    unfold ckS ckC; (try dsimp only)
    obtain ⟨e1, e2, e3⟩ := id hL
    apply rs_sto; exact nflT
    refine sq4 ?_
    refine aend_n ?_
    apply aend; exact resT
    · exact ⟨_, hL, rfl⟩
    · exact stleT
end
end Go.Proofs.YthhlimmcncbopaaGreat
/-
  What fits, by what is open alone; what a block encloses: plain words.
-/
namespace Go.Proofs.YthhlimmcncbopaaGreat
open Go.RowKit Go.ChangeShapes Go.WideShapes Go.ChangeAt Go.Deep
/-- those that are open: may it turn? -/
def astep (L : Nat) (S : List Bool) (op : Int) : Option (List Bool) :=
  if isO op = true then (if L ≤ S.length then none else some (S ++ [op == 4]))
  else if op ≠ 5 ∧ op ≠ 11 then some S
  else match S.getLast? with
    | none => none
    | some c => if op = 11 then some S.dropLast else if c = true then some (S.dropLast ++ [false]) else none
def arun (L : Nat) : List Int → List Bool → Option (List Bool)
  | [], S => some S
  | op :: w, S => match astep L S op with
    | none => none
    | some S' => arun L w S'
theorem arun_app {L : Nat} : ∀ {u v : List Int} {S T : List Bool}, arun L u S = some T → arun L (u ++ v) S = arun L v T
  | [], _, _, _, h => by cases h; rfl
  | op :: u, v, S, T, h => by
    rw [List.cons_append, arun]
    rw [arun] at h
    cases hs : astep L S op with
    | none => rw [hs] at h; cases h
    | some S' => rw [hs] at h; exact arun_app h
theorem arun_none {L : Nat} : ∀ {u v : List Int} {S : List Bool}, arun L u S = none → arun L (u ++ v) S = none
  | [], _, _, h => by cases h
  | op :: u, v, S, h => by
    rw [List.cons_append, arun]
    rw [arun] at h
    cases hs : astep L S op with
    | none => rfl
    | some S' => rw [hs] at h; exact arun_none h
theorem arun_one {L : Nat} {S : List Bool} {op : Int} : arun L [op] S = astep L S op := by
  rw [arun]; cases astep L S op <;> rfl
/-! ### the program's words are these -/
def flg (ops : List Int) (all : List Bk) (k : Nat) : Bool :=
  match all[k]? with
  | some b => (ops[b.at_]? == some 4) && decide (b.els < 0)
  | none => false
def abst (ops : List Int) (s : MS) : List Bool := s.opn.map (flg ops s.all)
theorem flg_app {ops : List Int} {all : List Bk} {k : Nat} (h : k < all.length) (x : Bk) : flg ops (all ++ [x]) k = flg ops all k := by
  unfold flg; rw [List.getElem?_append_left h]
theorem flg_set {ops : List Int} {all : List Bk} {k n : Nat} (h : k ≠ n) (x : Bk) : flg ops (all.set n x) k = flg ops all k := by
  unfold flg; rw [List.getElem?_set_ne (Ne.symm h)]
/-- what is open stands in order -/
structure MOk2 (s : MS) : Prop where
  inc : s.opn.Pairwise (· < ·)
theorem mstep_ok2 {ops : List Int} {j : Nat} {s s' : MS} {op : Int} (h1 : MOk j s) (h : MOk2 s) (hs : mstep ops s j op = some s') : MOk2 s' := by
  unfold mstep at hs
  split at hs
  · split at hs
    · cases hs
    · obtain rfl := Option.some.inj hs
      refine ⟨List.pairwise_append.2 ⟨h.inc, by simp, fun a ha b hb => ?_⟩⟩
      rw [List.mem_singleton.1 hb]; exact h1.opn a ha
  split at hs
  · obtain rfl := Option.some.inj hs; exact h
  unfold mtop at hs
  split at hs
  · cases hs
  split at hs
  · cases hs
  split at hs
  · obtain rfl := Option.some.inj hs
    exact ⟨h.inc.sublist (List.dropLast_sublist _)⟩
  split at hs
  · cases hs
  · obtain rfl := Option.some.inj hs; exact ⟨h.inc⟩
theorem mrun_ok2 {ops : List Int} : ∀ {j : Nat} {s : MS}, mrun ops j = some s → MOk2 s
  | 0, s, h => by obtain rfl := Option.some.inj h; exact ⟨List.Pairwise.nil⟩
  | j + 1, s, h => by
    rw [mrun] at h
    split at h
    · next s0 op h1 h2 => exact mstep_ok2 (mrun_ok h1) (mrun_ok2 h1) h
    · cases h
theorem step_sim {ops : List Int} {j : Nat} {s : MS} {op : Int} (h1 : MOk j s) (h2 : MOk2 s) (ho : ops[j]? = some op) : (mstep ops s j op).map (abst ops) = astep 40 (abst ops s) op := by
  obtain ⟨all, opn⟩ := s
  have hk := h1.opn
  have hlen := h1.len
  have hinc := h2.inc
  dsimp only at hk hlen hinc
  by_cases hO : isO op = true
  · by_cases h40 : opn.length = 40
    · rw [step_full hO h40]
      unfold astep abst; rw [if_pos hO, if_pos (by simp; omega)]; rfl
    · rw [step_open hO h40]
      unfold astep abst; rw [if_pos hO, if_neg (by simp; omega)]
      dsimp only [Option.map]
      rw [List.map_append, List.map_congr_left fun k hkk => flg_app (hk k hkk) _]
      simp [flg, ho]
  have hO : isO op = false := by simpa using hO
  by_cases h5 : op ≠ 5 ∧ op ≠ 11
  · rw [step_skip hO h5.1 h5.2]
    unfold astep; rw [if_neg (by simp [hO]), if_pos h5]; rfl
  rw [step_top hO (by omega)]
  unfold astep; rw [if_neg (by simp [hO]), if_neg h5]
  rcases List.eq_nil_or_concat opn with rfl | ⟨pre, k, rfl⟩
  · rfl
  have hkl := hk k (by simp)
  obtain ⟨b, hb⟩ : ∃ b, all[k]? = some b := ⟨_, List.getElem?_eq_getElem hkl⟩
  have hpre : ∀ x ∈ pre, x ≠ k := fun x hx => by
    have := (List.pairwise_append.1 (by simpa using hinc)).2.2 x hx k (by simp)
    omega
  have hab : abst ops ⟨all, pre.concat k⟩ = pre.map (flg ops all) ++ [flg ops all k] := by unfold abst; simp
  have hfk : flg ops all k = ((ops[b.at_]? == some 4) && decide (b.els < 0)) := by unfold flg; rw [hb]
  rw [hab, List.getLast?_append]
  dsimp only [List.getLast?_singleton, Option.some_or]
  rw [List.concat_eq_append]
  rcases (show op = 11 ∨ op = 5 by omega) with rfl | rfl
  · rw [top_end hb, if_pos rfl]
    unfold abst
    dsimp only [Option.map]
    rw [List.map_congr_left fun x hx => flg_set (hpre x hx) _]
    simp
  · rw [if_neg (by decide), hfk]
    by_cases hc : ops[b.at_]? = some 4 ∧ ¬ 0 ≤ b.els
    · rw [top_else hb hc.1 hc.2, if_pos (by simp [hc.1]; omega)]
      unfold abst
      dsimp only [Option.map]
      rw [List.map_append, List.map_congr_left fun x hx => flg_set (hpre x hx) _]
      simp [flg, hkl]
    · have hc' : ops[b.at_]? ≠ some 4 ∨ 0 ≤ b.els := by
        by_cases h4 : ops[b.at_]? = some 4
        · exact .inr (by by_cases h0 : 0 ≤ b.els; exact h0; exact absurd ⟨h4, h0⟩ hc)
        · exact .inl h4
      rw [top_bad hb hc', if_neg (by rcases hc' with h | h; simp [h]; simp; intro _; exact h)]
      rfl
theorem run_sim {ops : List Int} : ∀ {j : Nat}, j ≤ ops.length → arun 40 (ops.take j) [] = (mrun ops j).map (abst ops)
  | 0, _ => by simp [arun, mrun, abst]
  | j + 1, hj => by
    have ih := run_sim (ops := ops) (j := j) (by omega)
    obtain ⟨op, ho⟩ : ∃ op, ops[j]? = some op := ⟨_, List.getElem?_eq_getElem hj⟩
    rw [List.take_add_one, ho]
    dsimp only [Option.toList]
    cases hm : mrun ops j with
    | none =>
      rw [hm] at ih
      rw [arun_none ih, mrun, hm]; rfl
    | some s =>
      rw [hm] at ih
      rw [arun_app ih, arun_one, mrun_next hm ho]
      exact (step_sim (mrun_ok hm) (mrun_ok2 hm) ho).symm
theorem okN_iff {ops : List Int} : okN ops = true ↔ ops.length ≤ 300 ∧ arun 40 ops [] = some [] := by
  have h := run_sim (ops := ops) (Nat.le_refl _)
  rw [List.take_length] at h
  rw [h]
  unfold okN matchN
  by_cases hl : 300 < ops.length
  · rw [if_pos hl]; simp; omega
  rw [if_neg hl]
  cases hm : mrun ops ops.length with
  | none => simp
  | some s =>
    obtain ⟨all, opn⟩ := s
    cases opn with
    | nil => simp [abst]; omega
    | cons k r => simp [abst]
/-! ### what a block encloses -/
def Bal (h : Nat) (w : List Int) : Prop := arun h w [] = some []
def sl (ops : List Int) (i k : Nat) : List Int := (ops.take k).drop i
def Arm (ops : List Int) (h : Nat) (b : Bk) (j : Nat) : Prop :=
  (b.els = -1 ∧ Bal h (sl ops (b.at_ + 1) j)) ∨ ∃ e : Nat, b.els = (e : Int) ∧ b.at_ < e ∧ e < j ∧ ops[b.at_]? = some 4 ∧ ops[e]? = some 5 ∧ Bal h (sl ops (b.at_ + 1) e) ∧ Bal h (sl ops (e + 1) j)
inductive Stk (ops : List Int) (all : List Bk) : Nat → List Nat → Prop
  | nil {j : Nat} : Bal 40 (ops.take j) → Stk ops all j []
  | top {j k : Nat} {r : List Nat} {b : Bk} {op : Int} : all[k]? = some b → Stk ops all b.at_ r → (∀ x ∈ r, x < k) → r.length < 40 → b.at_ < j → ops[b.at_]? = some op → isO op = true → Arm ops (39 - r.length) b j → Stk ops all j (k :: r)
def Clo (ops : List Int) (j : Nat) (b : Bk) : Prop :=
  ∃ n : Nat, b.en = (n : Int) ∧ b.at_ < n ∧ n < j ∧ (∃ S, arun 40 (ops.take b.at_) [] = some S ∧ arun 40 (ops.take (n + 1)) [] = some S) ∧
    ((b.els = -1 ∧ Bal 40 (sl ops (b.at_ + 1) n)) ∨ ∃ e : Nat, b.els = (e : Int) ∧ b.at_ < e ∧ e < n ∧ Bal 40 (sl ops (b.at_ + 1) e) ∧ Bal 40 (sl ops (e + 1) n))
theorem Clo.mono {ops : List Int} {i j : Nat} {b : Bk} (h : Clo ops i b) (hij : i ≤ j) : Clo ops j b := by
  obtain ⟨n, h1, h2, h3, h4⟩ := h
  exact ⟨n, h1, h2, by omega, h4⟩
def J (ops : List Int) (j : Nat) (s : MS) : Prop := Stk ops s.all j s.opn.reverse ∧ ∀ k b, s.all[k]? = some b → k ∉ s.opn → Clo ops j b
/-
  Package check: does a code fit?
-/
structure Md.Fn (m : Md) : Prop extends m.Ck where
  bd : ∀ c ∈ m.co, c.bd.length ≤ 100000 ∧ ∀ x ∈ c.bd, x.Ck
  lc : ∀ c ∈ m.co, c.ls.length ≤ 1000
theorem control_no {m : Md} {s : PS} {x : Ins} (h : (controlP m s x).1 = false) : (controlP m s x).2 = s ∧ isO x.op = false ∧ x.op ≠ 5 ∧ x.op ≠ 11 := by
  have key : ∀ r : Bool × PS, r.1 = true → r.1 = false → r.2 = s ∧ isO x.op = false ∧ x.op ≠ 5 ∧ x.op ≠ 11 := fun r h1 h2 => by rw [h1] at h2; cases h2
  revert h
  unfold controlP
  refine ite_p (p := fun r : Bool × PS => r.1 = false → r.2 = s ∧ isO x.op = false ∧ x.op ≠ 5 ∧ x.op ≠ 11) (fun _ => key _ rfl) (fun _ => ?_)
  refine ite_p (p := fun r : Bool × PS => r.1 = false → r.2 = s ∧ isO x.op = false ∧ x.op ≠ 5 ∧ x.op ≠ 11) (fun _ => key _ rfl) (fun _ => ?_)
  refine ite_p (p := fun r : Bool × PS => r.1 = false → r.2 = s ∧ isO x.op = false ∧ x.op ≠ 5 ∧ x.op ≠ 11) (fun _ => key _ rfl) (fun a1 => ?_)
  refine ite_p (p := fun r : Bool × PS => r.1 = false → r.2 = s ∧ isO x.op = false ∧ x.op ≠ 5 ∧ x.op ≠ 11) (fun _ => key _ rfl) (fun a2 => ?_)
  refine ite_p (p := fun r : Bool × PS => r.1 = false → r.2 = s ∧ isO x.op = false ∧ x.op ≠ 5 ∧ x.op ≠ 11) (fun _ => key _ rfl) (fun a3 => ?_)
  refine ite_p (p := fun r : Bool × PS => r.1 = false → r.2 = s ∧ isO x.op = false ∧ x.op ≠ 5 ∧ x.op ≠ 11) (fun _ => key _ rfl) (fun a4 => ?_)
  refine ite_p (p := fun r : Bool × PS => r.1 = false → r.2 = s ∧ isO x.op = false ∧ x.op ≠ 5 ∧ x.op ≠ 11) (fun _ => key _ rfl) (fun _ => ?_)
  refine ite_p (p := fun r : Bool × PS => r.1 = false → r.2 = s ∧ isO x.op = false ∧ x.op ≠ 5 ∧ x.op ≠ 11) (fun _ => key _ rfl) (fun _ => ?_)
  refine ite_p (p := fun r : Bool × PS => r.1 = false → r.2 = s ∧ isO x.op = false ∧ x.op ≠ 5 ∧ x.op ≠ 11) (fun _ => key _ rfl) (fun _ => ?_)
  refine ite_p (p := fun r : Bool × PS => r.1 = false → r.2 = s ∧ isO x.op = false ∧ x.op ≠ 5 ∧ x.op ≠ 11) (fun _ => key _ rfl) (fun _ => ?_)
  refine ite_p (p := fun r : Bool × PS => r.1 = false → r.2 = s ∧ isO x.op = false ∧ x.op ≠ 5 ∧ x.op ≠ 11) (fun _ => key _ rfl) (fun _ => ?_)
  refine ite_p (p := fun r : Bool × PS => r.1 = false → r.2 = s ∧ isO x.op = false ∧ x.op ≠ 5 ∧ x.op ≠ 11) (fun _ => key _ rfl) (fun _ => ?_)
  intro _
  refine ⟨rfl, ?_, by simpa using a3, by simpa using a4⟩
  unfold isO
  rw [Bool.not_eq_true] at a1 a2
  rw [a1, a2]; rfl
/-- the checker behind an instruction: blocks as many as are open -/
structure LOk (m : Md) (ls : List Int) (bd : List Ins) (s0 : PS) (j : Nat) (s : PS) (F : List Bool) : Prop where
  gd : s.Ok
  vl : s.vs.length ≤ 101 * j
  fl : F.length + 1 = s.cs.length
  f40 : F.length ≤ 40
  rn : arun 40 ((opsOf bd).drop j) F = some []
  go : goP m ls bd s0 = goP m ls (bd.drop j) s
  nb : s.bad = false
theorem LOk.ge {m : Md} {ls : List Int} {bd : List Ins} {s0 s : PS} {j : Nat} {F : List Bool} (h : LOk m ls bd s0 j s F) (hj : j ≤ 300) : s.Gd := ⟨h.gd, by have := h.vl; omega, by have := h.fl; have := h.f40; omega⟩
theorem ops_drop {bd : List Ins} {a : Nat} {x : Ins} (h : bd[a]? = some x) : (opsOf bd).drop a = x.op :: (opsOf bd).drop (a + 1) ∧ bd.drop a = x :: bd.drop (a + 1) := by
  obtain ⟨h1, rfl⟩ := List.getElem?_eq_some_iff.1 h
  refine ⟨?_, List.drop_eq_getElem_cons h1⟩
  unfold opsOf
  rw [← List.map_drop, List.drop_eq_getElem_cons h1, List.map_cons, List.map_drop]
theorem LOk.two {m : Md} {ls : List Int} {bd : List Ins} {s0 s : PS} {j : Nat} {F : List Bool} (h : LOk m ls bd s0 j s F) {x : Ins} (hx : bd[j]? = some x) (h11 : x.op = 11) : 2 ≤ s.cs.length := by
  have hr := h.rn
  rw [(ops_drop hx).1, h11, arun] at hr
  have := h.fl
  cases F with
  | nil => unfold astep at hr; simp [isO] at hr
  | cons a F => simp at this; omega
/-- one step: the state behind it, whatever it was -/
theorem LOk.step {m : Md} {ls : List Int} {bd : List Ins} {s0 s : PS} {j : Nat} {F : List Bool} (hT : m.TS) (h : LOk m ls bd s0 j s F) {x : Ins} (hx : bd[j]? = some x) :
    (stepP m ls s x).Ok ∧ (stepP m ls s x).vs.length ≤ 101 * (j + 1) ∧ ((stepP m ls s x).bad = true → (goP m ls bd s0).bad = true) ∧ ((stepP m ls s x).bad = false → ∃ F', LOk m ls bd s0 (j + 1) (stepP m ls s x) F') := by
  obtain ⟨hc1, hc2, hc3⟩ := control_all (m := m) h.gd (fun e => h.two hx e) hT
  have hvl := h.vl
  have key : (stepP m ls s x).Ok ∧ (stepP m ls s x).vs.length ≤ 101 * (j + 1) ∧ ((stepP m ls s x).cs.length : Int) = s.cs.length + dK x.op := by
    unfold stepP
    dsimp only
    cases hc : (controlP m s x).1 with
    | true =>
      rw [if_pos rfl]
      rw [hc, if_pos rfl] at hc3
      exact ⟨hc1, by omega, hc3⟩
    | false =>
      obtain ⟨e1, e2, e3, e4⟩ := control_no hc
      rw [if_neg (by simp), e1]
      obtain ⟨p1, p2, p3⟩ := plain_all (m := m) (ls := ls) (x := x) h.gd
      refine ⟨p1, by omega, ?_⟩
      rw [p3]
      have : dK x.op = 0 := by
        unfold dK
        unfold isO at e2
        rw [e2, if_neg (by simp), if_neg (by simpa using e4)]
      omega
  obtain ⟨k1, k2, k3⟩ := key
  obtain ⟨o1, o2⟩ := ops_drop hx
  refine ⟨k1, k2, fun hb => ?_, fun hb => ?_⟩
  · rw [h.go, o2]
    show (if _ then _ else _ : PS).bad = true
    rw [if_pos hb]; exact hb
  · have hr := h.rn
    rw [o1, arun] at hr
    cases hs : astep 40 F x.op with
    | none => rw [hs] at hr; cases hr
    | some F' =>
      rw [hs] at hr
      have hF : (F'.length : Int) = F.length + dK x.op ∧ F'.length ≤ 40 := by
        have h40 := h.f40
        unfold astep at hs
        split at hs
        · next hO =>
          split at hs
          · cases hs
          · obtain rfl := Option.some.inj hs
            unfold isO at hO
            unfold dK
            rw [if_pos hO]
            simp; omega
        · next hO =>
          have hd0 : ∀ n : Int, (x.op == 11) = false → dK x.op = 0 := fun _ e => by
            unfold dK; unfold isO at hO; rw [if_neg (by simpa using hO), if_neg (by simp [e])]
          split at hs
          · next h2 =>
            obtain rfl := Option.some.inj hs
            rw [hd0 0 (by simpa using h2.2)]
            omega
          · split at hs
            · cases hs
            · next c hl =>
              have hp : 0 < F.length := List.length_pos_iff.2 (by rintro rfl; cases hl)
              split at hs
              · next h11 =>
                obtain rfl := Option.some.inj hs
                rw [h11]
                simp [dK]; omega
              · next h11 =>
                split at hs
                · obtain rfl := Option.some.inj hs
                  rw [hd0 0 (by simpa using h11)]
                  simp; omega
                · cases hs
      have hfl := h.fl
      refine ⟨F', k1, k2, by omega, hF.2, hr, ?_, hb⟩
      rw [h.go, o2]
      show (if _ then _ else _ : PS) = _
      rw [if_neg (by simp [hb])]
theorem LOk.init {m : Md} {ls : List Int} {bd : List Ins} {kd : Int} (h : okN (opsOf bd) = true) : LOk m ls bd (openP ⟨[], [], false⟩ 2 kd) 0 (openP ⟨[], [], false⟩ 2 kd) [] :=
  ⟨PS.Ok0.openP ⟨by simp, by simp⟩ 2 kd, by simp [openP], by simp [openP], by simp, (okN_iff.1 h).2, rfl, rfl⟩
end Go.Proofs.YthhlimmcncbopaaGreat
/-
  Package check: does a code fit: the program's Func.
-/
namespace Go.Proofs.YthhlimmcncbopaaGreat
open Go.RowKit Go.ChangeShapes Go.WideShapes Go.ChangeAt Go.Deep
attribute [local irreducible] SW RS RD AThen ABlock
theorem tri_no {a b c : Bool} (h : (if (if a = true then true else b) = true then true else c) = false) : a = false ∧ b = false ∧ c = false := by cases a <;> cases b <;> cases c <;> simp at h ⊢
theorem two_no {a b : Bool} (h : (if (!a) = true then true else !b) = false) : a = true ∧ b = true := by cases a <;> cases b <;> simp at h ⊢
theorem chk_at {m : Md} {k : Int} {c : Co} {f : Int} (h : (if (if decide (k < 0) = true then true else decide ((m.co.length : Int) ≤ k)) = true then true else decide ((m.fn.length : Int) ≤ k)) = false) (hc : m.co[k.toNat]? = some c) (hf : m.fn[k.toNat]? = some f) :
    chkP m k = if (if (!(typeOfP m f).2) = true then true else !(okN (opsOf c.bd))) = true then false
      else if (goP m ((typeOfP m f).1.pr ++ c.ls) c.bd (openP ⟨[], [], false⟩ 2 (if decide ((0 : Int) < (typeOfP m f).1.rs.length) = true then (typeOfP m f).1.rs.headD 0 else 0))).bad = true then false
      else if (!(shutP (goP m ((typeOfP m f).1.pr ++ c.ls) c.bd (openP ⟨[], [], false⟩ 2 (if decide ((0 : Int) < (typeOfP m f).1.rs.length) = true then (typeOfP m f).1.rs.headD 0 else 0)))).bad) = true then decide ((((typeOfP m f).1.pr ++ c.ls).length : Int) ≤ 32) else false := by
  unfold chkP
  rw [if_neg (fun e => by rw [h] at e; cases e)]
  dsimp only
  rw [List.getD_eq_getElem?_getD, List.getD_eq_getElem?_getD, hc, hf]
  rfl
theorem check_func (m : Md) (hm : m.Fn) (k : Int) : SCall Tryz.prog 17 [.agg (encMd m), .int .i64 k] [] (fun y σ => y = .bool (chkP m k) ∧ σ = []) := by
  refine scall_of (n := 124) (ks := [0, 1, 2, 4, 5, 6, 7, 9, 10, 12, 31, 57, 78, 91, 92, 93, 94, 100, 107]) Tryz.func17 rfl rfl (Nat.le_of_ble_eq_true rfl) ?_
  unfold encMd
  refine sq3 ?_
  apply bx; rfl; rfl; (exact zcT); rfl; refine freshT fun r2 h2 => ?_; repeat rcases h2 with ⟨_, h2⟩
  refine sq25 ?_
  refine z99 ?_
  refine z93 ?_
  apply bx; rfl; rfl; (exact zcT); rfl; refine freshT fun r15 h15 => ?_; repeat rcases h15 with ⟨_, h15⟩
  refine sq2 ?_
  refine sw_virt_box (ks := [0, 1, 2, 4, 5, 6, 7, 9, 10, 12, 31, 57, 78, 91, 92, 93, 94, 100, 107]) r15 15 3 1 (by decide) sgT rfl (by decide) fun p hp => ?_
  simp only [fresh_cons, fresh_nil, and_true] at hp; repeat rcases hp with ⟨_, hp⟩
  apply Exists.intro; apply And.intro; (exact ssetT)
  refine sw_virt_box (ks := [0, 1, 2, 4, 5, 6, 7, 9, 10, 12, 31, 57, 78, 91, 92, 93, 94, 100, 107]) r15 16 92 4 (by decide) sgT rfl (by decide) fun q hq => ?_
  simp only [fresh_cons, fresh_nil, and_true] at hq; repeat rcases hq with ⟨_, hq⟩
  apply Exists.intro; apply And.intro; (exact ssetT)
  refine sw_go (sgo_leb (r := r15) (cs' := ckC m (.ro 0 [] .nil) p q [] [] false) ssetT (.cons (.refl _) (.cons (.refl _) (.cons (.refl _) (.cons (.refl _) (.cons (.refl _) (.cons (.refl _) (.cons (.refl _) (.cons (.refl _) (.cons (.refl _) (.cons (.refl _) (.cons (.refl _) (.cons (.refl _) (.cons (.refl _) (.cons (.refl _) (.cons (.refl _) (.cons (.refl _) (.cons (.refl _) (.cons (.refl _) .nil))))))))))))))))))) ?_
  have hN0 : Nm r15 p q := ⟨by (exact nqT), by (exact nqT), by (exact nqT)⟩
  unfold ckC
  (try dsimp only)
  refine sq1 ?_
  refine sq87 ?_
  refine z114 ?_
  refine z115 ?_
  refine z124 ?_
  first | refine ln rfl rfl rfl rfl ?_ | (refine gy rfl rfl ?_; refine lo (lop_geq (by first | exact W rfl id | exact E rfl) (by first | exact W rfl id | exact E rfl)) rfl ?_) | refine lg rfl rfl (lop_geq (by first | exact W rfl id | exact E rfl) (by first | exact W rfl id | exact E rfl)) rfl ?_
  refine z113 ?_
  refine sq10 ?_
  refine z114 ?_
  refine z115 ?_
  refine z124 ?_
  first | refine ln rfl rfl rfl rfl ?_ | (refine gy rfl rfl ?_; refine lo (lop_geq (by first | exact W rfl id | exact E rfl) (by first | exact W rfl id | exact E rfl)) rfl ?_) | refine lg rfl rfl (lop_geq (by first | exact W rfl id | exact E rfl) (by first | exact W rfl id | exact E rfl)) rfl ?_
  refine z113 ?_
  refine sq4 ?_
  refine sw_cond rfl (fun g2 => ?_) (fun g2 => ?_)
  · rw [show chkP m k = false from if_pos g2]
    refine sq8 ?_
    apply aend; exact resT
    · exact ⟨rfl, rfl⟩
    · exact stleT
  obtain ⟨t1, t2, t3⟩ := tri_no g2
  simp only [decide_eq_false_iff_not] at t1 t2 t3
  obtain ⟨c, hc⟩ : ∃ c, m.co[k.toNat]? = some c := ⟨_, List.getElem?_eq_getElem (by omega)⟩
  obtain ⟨f, hf⟩ : ∃ f, m.fn[k.toNat]? = some f := ⟨_, List.getElem?_eq_getElem (by omega)⟩
  rw [chk_at g2 hc hf]
  have hcm := List.mem_of_getElem? hc
  obtain ⟨hb1, hb2⟩ := hm.bd c hcm
  have hlc := hm.lc c hcm
  refine sq7 ?_
  refine sq11 ?_
  refine sq30 ?_
  refine z16 ?_
  refine cw (ckS r15 p q m (.ro 0 [] .nil) ⟨[], [], false⟩) Tryz.call35 (ck_typeOf hN0 ⟨[], [], false⟩ f) rfl argsleT stleS ?_
  rintro _ σ' ⟨rfl, rfl⟩ h39
  unfold ckS ckC; (try dsimp only)
  apply rs_sto; exact nflT
  refine sq36 ?_
  apply al; rfl; (exact zcT); refine freshT fun r6 h6 => ?_; repeat rcases h6 with ⟨_, h6⟩
  apply stp; rfl; rfl; rfl; rfl; (exact sputT)
  refine sq41 ?_
  refine sq30 ?_
  refine z117 ?_
  refine z16 ?_
  refine clA Tryz.call36 (code_match c.bd hb1) rfl bargsT noT ?_
  rintro _ σ' ⟨q1, rfl, rfl⟩ h49
  replace h49 := lnewT h49; repeat rcases h49 with ⟨_, h49⟩
  apply rs_sto; exact nflT
  refine sq36 ?_
  refine sq82 ?_
  refine lo (lop_not (E rfl)) rfl ?_
  refine sq10 ?_
  refine z130 ?_
  refine z113 ?_
  refine sq4 ?_
  refine sw_cond rfl (fun g6 => ?_) (fun g6 => ?_)
  · rw [if_pos g6]
    refine sq8 ?_
    apply aend; exact resT
    · exact ⟨rfl, rfl⟩
    · exact stleT
  obtain ⟨hty, hok⟩ := two_no g6
  rw [if_neg (c := (if (!(typeOfP m f).2) = true then true else !(okN (opsOf c.bd))) = true) (fun e => by rw [g6] at e; cases e)]
  have hts := typeOf_sm hm.ts f
  generalize (typeOfP m f).1 = t at hts ⊢
  obtain ⟨pr, rs⟩ := t
  obtain ⟨hp1, hp2⟩ := hts
  unfold encFT
  dsimp only at hp1 hp2 ⊢
  have h300 := (okN_iff.1 hok).1
  have h300 : c.bd.length ≤ 300 := by simpa [opsOf] using h300
  refine ctlT ?_
  refine rgD [(0, true), (1, true), (2, true), (3, true), (4, true), (5, true), (6, true), (8, true), (9, true), (10, true), (11, true), (12, true), (13, true), (7, false), (14, false), (15, true), (16, true), (17, false)] ?_
  refine dlo rfl (lop_move (E rfl)) rfl ?_
  refine sq32 ?_
  refine sq22 ?_
  refine sq22 ?_
  refine dlo rfl (lop_move (E rfl)) rfl ?_
  refine z56 ?_
  refine z161 ?_
  refine z57 ?_
  refine danA rfl (pr.map encI) pr.length ?_ (hby := by omega)
  refine freshT fun r65 h65 => ?_; repeat rcases h65 with ⟨_, h65⟩
  refine dapA rfl ((pr ++ c.ls).map encI) (pr ++ c.ls).length ?_
  refine apnT fun r72 h72 => ?_; repeat rcases h72 with ⟨_, h72⟩
  refine z77 ?_
  refine z73 ?_
  refine z95 ?_
  refine sq68 ?_
  refine sw_go (sgo_fzb (r := r15) (q := r72) ssetT sdelT (.cons (.refl _) (.cons (.refl _) (.cons (.refl _) (.cons (.refl _) (.cons (.refl _) (.cons (.refl _) (.cons (.refl _) (.cons (.refl _) (.cons (.refl _) (.cons (.refl _) (.cons (.refl _) (.cons (.refl _) (.cons (.refl _) (.cons (.refl _) (.cons (bor_own sgT (by simp)) (.cons (.refl _) (.cons (.refl _) (.cons (.refl _) .nil))))))))))))))))))) ?_
  have hll : (pr ++ c.ls).length ≤ 2000 := by simp; omega
  generalize pr ++ c.ls = ls at hll ⊢
  obtain ⟨kd, hkd⟩ : ∃ kd, kd = (if decide ((0 : Int) < (rs.length : Int)) = true then rs.headD 0 else 0) := ⟨_, rfl⟩
  rw [← hkd]
  refine rgT ?_
  refine sq41 ?_
  refine z14 ?_
  refine sq56 ?_
  refine sja (β := Unit) (fun _ => ⟨[(0, .agg (encMd m)), (1, .int .i64 k), (2, .ptr r2 0), (4, .bool false), (5, .ptr r15 0), (10, .int .i64 kd)], (r2, .box 33 (encMd m)) :: ckS r15 p q m (.ro 1 (ls.map encI) .any) ⟨[], [], false⟩⟩) (fun _ => True) ?_ ?_
  · refine sw_cond rfl (fun g10 => ?_) (fun g10 => ?_)
    · obtain ⟨v, rs', rfl⟩ : ∃ v rs', rs = v :: rs' := by cases rs with | nil => simp at g10 | cons v rs' => exact ⟨v, rs', rfl⟩
      obtain rfl : kd = v := by rw [hkd, if_pos g10]; rfl
      have hv0 : 0 < (kd :: rs').length := by simp
      refine sq63 ?_
      refine sq76 ?_
      refine sq2 ?_
      exact ⟨(), trivial, sgoT⟩
    obtain rfl : kd = 0 := by rw [hkd, g10]; rfl
    refine ctlT ?_
    exact ⟨(), trivial, sgoT⟩
  rintro ⟨⟩ -
  unfold encMd ckS ckC
  (try dsimp only)
  refine sq18 ?_
  refine cw (ckS r15 p q m (.ro 1 (ls.map encI) .any) ⟨[], [], false⟩) Tryz.call37 (ck_open hN0 ⟨[], [], false⟩ (by simp) 2 kd) rfl argsleT stleS ?_
  rintro _ σ' ⟨q2, hE, rfl⟩ h85
  unfold ckS ckC; (try dsimp only)
  obtain ⟨e1, e2, e3⟩ := id hE
  have k85 := fresh_rest (h85 _ (List.mem_cons_of_mem _ (List.mem_cons_of_mem _ List.mem_cons_self))); unfold ckS at k85; simp (disch := (first | (simp only [List.mem_cons, List.not_mem_nil, true_or, or_true, or_false]; done) | (focus (simp only [List.mem_cons, List.not_mem_nil, or_false, not_or]; (repeat' (first | apply And.intro | (exact nqT))); done)) | omega)) only [List.map_cons, List.map_nil, sdrop_none, sdrop_nil, sdrop_in, sdrop_out, fresh_cons, fresh_nil, and_true] at k85; repeat rcases k85 with ⟨_, k85⟩
  apply rs_sto; exact nflT
  refine sq4 ?_
  have hI := LOk.init (m := m) (ls := ls) (kd := kd) hok
  generalize openP ⟨[], [], false⟩ 2 kd = s0 at hI ⊢
  refine rgT ?_
  refine sq11 ?_
  refine sq30 ?_
  refine z117 ?_
  refine z16 ?_
  refine sq96 ?_
  refine lp (β := Nat × Nat × Nat × PS) (fun b => ⟨[(4, .bool false), (5, .ptr r15 0), (91, .ro 4 (c.bd.map (iv .any)) .any), (92, .int .i64 c.bd.length), (93, .int .i64 b.1)], ckS r15 b.2.1 b.2.2.1 m (.ro 1 (ls.map encI) .any) b.2.2.2⟩) (fun b => b.1 ≤ c.bd.length ∧ Nm r15 b.2.1 b.2.2.1 ∧ ∃ F, LOk m ls c.bd s0 b.1 b.2.2.2 F) (fun b => c.bd.length - b.1) (0, p, q2, s0) (by unfold ckS ckC; (try dsimp only); (exact sgoT)) ⟨Nat.zero_le _, hE, [], hI⟩ ?_
  rintro ⟨j, e, f', S⟩ ⟨hj, hN1, F, hL⟩
  dsimp only at hj hN1 hL ⊢
  obtain ⟨m1, m2, m3⟩ := id hN1
  have hG := hL.ge (by omega)
  have hbv := hL.vl
  have hbc : S.cs.length ≤ 41 := by have := hL.fl; have := hL.f40; omega
  unfold ckS ckC
  (try dsimp only)
  refine sq40 ?_
  refine sw_cond rfl (fun g14 => ?_) (fun g14 => ?_)
  · obtain ⟨x, hx⟩ : ∃ x, c.bd[j]? = some x := ⟨_, List.getElem?_eq_getElem (by simp at g14; omega)⟩
    have hlt : j < c.bd.length := (List.getElem?_eq_some_iff.1 hx).1
    have hxk := hb2 x (List.mem_of_getElem? hx)
    have hst := hL.step hm.ts hx
    refine sq3 ?_
    refine sq59 ?_
    apply al; rfl; (exact zcT); refine freshT fun r12 h12 => ?_; repeat rcases h12 with ⟨_, h12⟩
    apply stp; rfl; rfl; rfl; rfl; (exact sputT)
    refine sq27 ?_
    refine z99 ?_
    refine cw (ckS r15 e f' m (.ro 1 (ls.map encI) .any) S) Tryz.call38 (ck_control hN1 hm.toCk S hG (by omega) (by omega) x hxk (fun h => hL.two hx h)) rfl argsleT stleS ?_
    rintro _ σ' ⟨e1, f1, hE1, rfl, rfl⟩ h99
    unfold ckS ckC; (try dsimp only)
    obtain ⟨m4, m5, m6⟩ := id hE1
    have k99 := fresh_rest (h99 _ (List.mem_cons_of_mem _ List.mem_cons_self)); unfold ckS at k99; simp (disch := (first | (simp only [List.mem_cons, List.not_mem_nil, true_or, or_true, or_false]; done) | (focus (simp only [List.mem_cons, List.not_mem_nil, or_false, not_or]; (repeat' (first | apply And.intro | (exact nqT))); done)) | omega)) only [List.map_cons, List.map_nil, sdrop_none, sdrop_nil, sdrop_in, sdrop_out, fresh_cons, fresh_nil, and_true] at k99; repeat rcases k99 with ⟨_, k99⟩
    have l99 := fresh_rest (h99 _ (List.mem_cons_of_mem _ (List.mem_cons_of_mem _ List.mem_cons_self))); unfold ckS at l99; simp (disch := (first | (simp only [List.mem_cons, List.not_mem_nil, true_or, or_true, or_false]; done) | (focus (simp only [List.mem_cons, List.not_mem_nil, or_false, not_or]; (repeat' (first | apply And.intro | (exact nqT))); done)) | omega)) only [List.map_cons, List.map_nil, sdrop_none, sdrop_nil, sdrop_in, sdrop_out, fresh_cons, fresh_nil, and_true] at l99; repeat rcases l99 with ⟨_, l99⟩
    apply rs_sto; exact nflT
    refine sq48 ?_
    refine sw_cond rfl (fun g16 => ?_) (fun g16 => ?_)
    · have hc0 : (controlP m S x).1 = false := by simpa using g16
      rw [(control_no hc0).1]
      rw [show stepP m ls S x = plainP m ls S x by unfold stepP; dsimp only; rw [hc0, (control_no hc0).1]; rfl] at hst
      refine sq7 ?_
      refine z99 ?_
      refine cw (ckS r15 e1 f1 m (.ro 1 (ls.map encI) .any) S) Tryz.call39 (ck_plain hE1 S hG x hxk) rfl argsleT stleS ?_
      rintro _ σ' ⟨e2, hE2, rfl⟩ h103
      unfold ckS ckC; (try dsimp only)
      obtain ⟨m7, m8, m9⟩ := id hE2
      apply rs_sto; exact nflT
      refine sq4 ?_
      obtain ⟨A, O, hAO, rfl, rfl⟩ : ∃ A O, Nm r15 A O ∧ A = e2 ∧ O = f1 := ⟨_, _, hE2, rfl, rfl⟩
      generalize plainP m ls S x = S' at hst ⊢
      refine sq1 ?_
      refine sq38 ?_
      refine sq4 ?_
      refine sw_cond rfl (fun g18 => ?_) (fun g18 => ?_)
      · rw [if_pos (hst.2.2.1 g18)]
        refine sq8 ?_
        apply aend; exact resT
        · exact ⟨rfl, rfl⟩
        · exact stleT
      obtain ⟨F', hL'⟩ := hst.2.2.2 g18
      refine sq43 ?_
      refine ⟨(j + 1, A, O, S'), ⟨hlt, hAO, F', hL'⟩, by show c.bd.length - (j + 1) < c.bd.length - j; omega, ?_⟩
      (try dsimp only)
      exact sgoT
    have hc1 : (controlP m S x).1 = true := by simpa using g16
    rw [show stepP m ls S x = (controlP m S x).2 by unfold stepP; dsimp only; rw [if_pos hc1]] at hst
    obtain ⟨A, O, hAO, rfl, rfl⟩ : ∃ A O, Nm r15 A O ∧ A = e1 ∧ O = f1 := ⟨_, _, hE1, rfl, rfl⟩
    generalize (controlP m S x).2 = S' at hst ⊢
    refine sq7 ?_
    refine sq38 ?_
    refine sq4 ?_
    refine sw_cond rfl (fun g18 => ?_) (fun g18 => ?_)
    · rw [if_pos (hst.2.2.1 g18)]
      refine sq8 ?_
      apply aend; exact resT
      · exact ⟨rfl, rfl⟩
      · exact stleT
    obtain ⟨F', hL'⟩ := hst.2.2.2 g18
    refine sq43 ?_
    refine ⟨(j + 1, A, O, S'), ⟨hlt, hAO, F', hL'⟩, by show c.bd.length - (j + 1) < c.bd.length - j; omega, ?_⟩
    (try dsimp only)
    exact sgoT
  obtain rfl : j = c.bd.length := by simp at g14; omega
  rw [show goP m ls c.bd s0 = S by rw [hL.go, List.drop_length]; rfl, if_neg (by simp [hL.nb])]
  refine sq7 ?_
  refine cw (ckS r15 e f' m (.ro 1 (ls.map encI) .any) S) Tryz.call40 (ck_shut hN1 S hG) rfl argsleT stleS ?_
  rintro _ σ' ⟨rfl, rfl⟩ h110
  unfold ckS ckC; (try dsimp only)
  apply rs_sto; exact nflT
  refine sq27 ?_
  refine sq38 ?_
  refine lo (lop_not (E rfl)) rfl ?_
  refine sq10 ?_
  refine sq89 ?_
  refine z124 ?_
  refine z131 ?_
  refine sq31 ?_
  apply aend; exact resT
  · exact ⟨rfl, rfl⟩
  · exact stleT
end Go.Proofs.YthhlimmcncbopaaGreat
/-
  Parts of modules against one another.
-/
namespace Go.Proofs.YthhlimmcncbopaaGreat
open Go.RowKit Go.ChangeShapes Go.WideShapes Go.ChangeAt Go.Deep
theorem agg_l2 {M : Mp} {F : Nat → Prop} {w : World} {a b : AV} {x y u : Value} (ha : ∀ u, VR M F w a u → u = x) (hb : ∀ u, VR M F w b u → u = y) (h : VR M F w (.agg [a, b]) u) : u = .agg #[x, y] := by
  cases h with
  | @agg _ vs hl h =>
    obtain ⟨l⟩ := vs
    match l, hl with
    | [p, q], _ => rw [ha p (h 0 _ p rfl rfl), hb q (h 1 _ q rfl rfl)]
theorem agg_l3 {M : Mp} {F : Nat → Prop} {w : World} {a b c : AV} {x y z u : Value} (ha : ∀ u, VR M F w a u → u = x) (hb : ∀ u, VR M F w b u → u = y) (hc : ∀ u, VR M F w c u → u = z) (h : VR M F w (.agg [a, b, c]) u) : u = .agg #[x, y, z] := by
  cases h with
  | @agg _ vs hl h =>
    obtain ⟨l⟩ := vs
    match l, hl with
    | [p, q, r], _ => rw [ha p (h 0 _ p rfl rfl), hb q (h 1 _ q rfl rfl), hc r (h 2 _ r rfl rfl)]
theorem vr_int {M : Mp} {F : Nat → Prop} {w : World} {k : IntKind} {n : Int} : ∀ u, VR M F w (.int k n) u → u = .int k n := fun u h => by cases h; rfl
theorem vr_bool {M : Mp} {F : Nat → Prop} {w : World} {b : Bool} : ∀ u, VR M F w (.bool b) u → u = .bool b := fun u h => by cases h; rfl
theorem vr_str {M : Mp} {F : Nat → Prop} {w : World} {b : ByteArray} : ∀ u, VR M F w (.str b) u → u = .string b := fun u h => by cases h; rfl
theorem eq_li (w : World) (a d : Bool) (b c e f : Int) : (Op.equal 26 (.agg #[.bool a, .int .i64 b, .int .i64 c]) (.agg #[.bool d, .int .i64 e, .int .i64 f])).run Tryz.prog w = .ok (a == d && b == e && c == f) w := by
  have hs : Tryz.prog.stoodInHeld 26 = false := by kernel_rfl
  have hf : Tryz.prog.underlying 26 = some (.struct (Tryz.prog.fieldsOf 26)) := by unfold Program.fieldsOf; rw [Tryz.underlying26]
  have p1 : Tryz.prog.plainKey 4 = true := by kernel_rfl
  have p2 : Tryz.prog.plainKey 3 = true := by kernel_rfl
  have h : (Op.equalIn (9999 + 1) 26 (.agg #[.bool a, .int .i64 b, .int .i64 c]) (.agg #[.bool d, .int .i64 e, .int .i64 f])).run Tryz.prog w = .ok (a == d && b == e && c == f) w := by
    rw [run_equalIn_struct w 9999 _ _ _ hf hs]
    unfold Program.fieldsOf
    rw [Tryz.underlying26]
    simp only [Op.eqFields]
    cases h1 : (a == d) <;> cases h2 : (b == e) <;> cases h3 : (c == f) <;> simp [run_part_plain w p1 (xs := #[.bool a, .int .i64 b, .int .i64 c]) (off := 0) rfl, run_part_plain w p1 (xs := #[.bool d, .int .i64 e, .int .i64 f]) (off := 0) rfl, run_part_plain w p2 (xs := #[.bool a, .int .i64 b, .int .i64 c]) (off := 1) rfl, run_part_plain w p2 (xs := #[.bool d, .int .i64 e, .int .i64 f]) (off := 1) rfl, run_part_plain w p2 (xs := #[.bool a, .int .i64 b, .int .i64 c]) (off := 2) rfl, run_part_plain w p2 (xs := #[.bool d, .int .i64 e, .int .i64 f]) (off := 2) rfl, run_equalIn_int w _ _ _ _ _ _ Tryz.underlying3, run_equalIn_bool' w _ _ _ _ Tryz.underlying4, h1, h2, h3]
  exact h
theorem eq_im (w : World) (a b d e : ByteArray) (c f : Int) : (Op.equal 60 (.agg #[.string a, .string b, .int .i64 c]) (.agg #[.string d, .string e, .int .i64 f])).run Tryz.prog w = .ok (a.toList == d.toList && b.toList == e.toList && c == f) w := by
  have hs : Tryz.prog.stoodInHeld 60 = false := by kernel_rfl
  have hf : Tryz.prog.underlying 60 = some (.struct (Tryz.prog.fieldsOf 60)) := by unfold Program.fieldsOf; rw [Tryz.underlying60]
  have p1 : Tryz.prog.plainKey 9 = true := by kernel_rfl
  have p2 : Tryz.prog.plainKey 3 = true := by kernel_rfl
  have h : (Op.equalIn (9999 + 1) 60 (.agg #[.string a, .string b, .int .i64 c]) (.agg #[.string d, .string e, .int .i64 f])).run Tryz.prog w = .ok (a.toList == d.toList && b.toList == e.toList && c == f) w := by
    rw [run_equalIn_struct w 9999 _ _ _ hf hs]
    unfold Program.fieldsOf
    rw [Tryz.underlying60]
    simp only [Op.eqFields]
    cases h1 : (a.toList == d.toList) <;> cases h2 : (b.toList == e.toList) <;> cases h3 : (c == f) <;> simp [run_part_plain w p1 (xs := #[.string a, .string b, .int .i64 c]) (off := 0) rfl, run_part_plain w p1 (xs := #[.string d, .string e, .int .i64 f]) (off := 0) rfl, run_part_plain w p1 (xs := #[.string a, .string b, .int .i64 c]) (off := 1) rfl, run_part_plain w p1 (xs := #[.string d, .string e, .int .i64 f]) (off := 1) rfl, run_part_plain w p2 (xs := #[.string a, .string b, .int .i64 c]) (off := 2) rfl, run_part_plain w p2 (xs := #[.string d, .string e, .int .i64 f]) (off := 2) rfl, run_equalIn_int w _ _ _ _ _ _ Tryz.underlying3, run_equalIn_string w _ _ _ _ Tryz.underlying9, h1, h2, h3]
  exact h
theorem eq_ex (w : World) (a d : ByteArray) (c f : Int) : (Op.equal 66 (.agg #[.string a, .int .i64 c]) (.agg #[.string d, .int .i64 f])).run Tryz.prog w = .ok (a.toList == d.toList && c == f) w := by
  have hs : Tryz.prog.stoodInHeld 66 = false := by kernel_rfl
  have hf : Tryz.prog.underlying 66 = some (.struct (Tryz.prog.fieldsOf 66)) := by unfold Program.fieldsOf; rw [Tryz.underlying66]
  have p1 : Tryz.prog.plainKey 9 = true := by kernel_rfl
  have p2 : Tryz.prog.plainKey 3 = true := by kernel_rfl
  have h : (Op.equalIn (9999 + 1) 66 (.agg #[.string a, .int .i64 c]) (.agg #[.string d, .int .i64 f])).run Tryz.prog w = .ok (a.toList == d.toList && c == f) w := by
    rw [run_equalIn_struct w 9999 _ _ _ hf hs]
    unfold Program.fieldsOf
    rw [Tryz.underlying66]
    simp only [Op.eqFields]
    cases h1 : (a.toList == d.toList) <;> cases h3 : (c == f) <;> simp [run_part_plain w p1 (xs := #[.string a, .int .i64 c]) (off := 0) rfl, run_part_plain w p1 (xs := #[.string d, .int .i64 f]) (off := 0) rfl, run_part_plain w p2 (xs := #[.string a, .int .i64 c]) (off := 1) rfl, run_part_plain w p2 (xs := #[.string d, .int .i64 f]) (off := 1) rfl, run_equalIn_int w _ _ _ _ _ _ Tryz.underlying3, run_equalIn_string w _ _ _ _ Tryz.underlying9, h1, h3]
  exact h
theorem eqd_val (n : Nat) (w : World) (a b c d : Int) : (Op.equalIn (n + 2) 62 (.agg #[.int .i64 a, .int .i64 b]) (.agg #[.int .i64 c, .int .i64 d])).run Tryz.prog w = .ok (a == c && b == d) w := by
  have hs : Tryz.prog.stoodInHeld 62 = false := by kernel_rfl
  have hf : Tryz.prog.underlying 62 = some (.struct (Tryz.prog.fieldsOf 62)) := by unfold Program.fieldsOf; rw [Tryz.underlying62]
  have p1 : Tryz.prog.plainKey 3 = true := by kernel_rfl
  have p2 : Tryz.prog.plainKey 2 = true := by kernel_rfl
  rw [run_equalIn_struct w (n + 1) _ _ _ hf hs]
  unfold Program.fieldsOf
  rw [Tryz.underlying62]
  simp only [Op.eqFields]
  cases h1 : (a == c) <;> cases h2 : (b == d) <;> simp [run_part_plain w p1 (xs := #[.int .i64 a, .int .i64 b]) (off := 0) rfl, run_part_plain w p1 (xs := #[.int .i64 c, .int .i64 d]) (off := 0) rfl, run_part_plain w p2 (xs := #[.int .i64 a, .int .i64 b]) (off := 1) rfl, run_part_plain w p2 (xs := #[.int .i64 c, .int .i64 d]) (off := 1) rfl, run_equalIn_int w _ _ _ _ _ _ Tryz.underlying3, run_equalIn_int w _ _ _ _ _ _ Tryz.underlying2, h1, h2]
theorem eq_gl (w : World) (a d : Bool) (b c e f : Int) : (Op.equal 64 (.agg #[.bool a, .int .i64 b, .int .i64 c]) (.agg #[.bool d, .int .i64 e, .int .i64 f])).run Tryz.prog w = .ok (a == d && (b == e && c == f)) w := by
  have hs : Tryz.prog.stoodInHeld 64 = false := by kernel_rfl
  have hf : Tryz.prog.underlying 64 = some (.struct (Tryz.prog.fieldsOf 64)) := by unfold Program.fieldsOf; rw [Tryz.underlying64]
  have p1 : Tryz.prog.plainKey 4 = true := by kernel_rfl
  have q1 : ∀ a b c, (part 62 #[.bool a, .int .i64 b, .int .i64 c] 1).run Tryz.prog w = .ok (.agg #[.int .i64 b, .int .i64 c]) w := fun a b c => by
    obtain ⟨i, hi, hz, hs, _⟩ := Tz.parts Tryz.prog 62
    simp [part, isAgg, run_underlying Tryz.underlying62, sizeOf, typeInfo, hi, hs]
  have h : (Op.equalIn (9999 + 1) 64 (.agg #[.bool a, .int .i64 b, .int .i64 c]) (.agg #[.bool d, .int .i64 e, .int .i64 f])).run Tryz.prog w = .ok (a == d && (b == e && c == f)) w := by
    rw [run_equalIn_struct w 9999 _ _ _ hf hs]
    unfold Program.fieldsOf
    rw [Tryz.underlying64]
    simp only [Op.eqFields]
    cases h1 : (a == d) <;> cases h2 : (b == e && c == f) <;> simp [run_part_plain w p1 (xs := #[.bool a, .int .i64 b, .int .i64 c]) (off := 0) rfl, run_part_plain w p1 (xs := #[.bool d, .int .i64 e, .int .i64 f]) (off := 0) rfl, q1, run_equalIn_bool' w _ _ _ _ Tryz.underlying4, eqd_val 9997, h1, h2]
  exact h
/-
  Lists of parts against one another.
-/
instance : DecidableEq FT := fun a b => decidable_of_iff (a.pr = b.pr ∧ a.rs = b.rs) ⟨fun h => by cases a; cases b; simp_all, fun h => by subst h; exact ⟨rfl, rfl⟩⟩
instance : DecidableEq Im := fun a b => decidable_of_iff (a.mod = b.mod ∧ a.nm = b.nm ∧ a.ty = b.ty) ⟨fun h => by cases a; cases b; simp_all, fun h => by subst h; exact ⟨rfl, rfl, rfl⟩⟩
instance : DecidableEq Gl := fun a b => decidable_of_iff (a.mu = b.mu ∧ a.kd = b.kd ∧ a.n = b.n) ⟨fun h => by cases a; cases b; simp_all, fun h => by subst h; exact ⟨rfl, rfl, rfl⟩⟩
instance : DecidableEq Ex := fun a b => decidable_of_iff (a.nm = b.nm ∧ a.fn = b.fn) ⟨fun h => by cases a; cases b; simp_all, fun h => by subst h; exact ⟨rfl, rfl⟩⟩
instance : DecidableEq El := fun a b => decidable_of_iff (a.off = b.off ∧ a.fs = b.fs) ⟨fun h => by cases a; cases b; simp_all, fun h => by subst h; exact ⟨rfl, rfl⟩⟩
instance : DecidableEq Co := fun a b => decidable_of_iff (a.ls = b.ls ∧ a.bd = b.bd) ⟨fun h => by cases a; cases b; simp_all, fun h => by subst h; exact ⟨rfl, rfl⟩⟩
instance : DecidableEq Da := fun a b => decidable_of_iff (a.off = b.off ∧ a.bs = b.bs) ⟨fun h => by cases a; cases b; simp_all, fun h => by subst h; exact ⟨rfl, rfl⟩⟩
instance : DecidableEq Li := fun a b => decidable_of_iff (a.has = b.has ∧ a.mn = b.mn ∧ a.mx = b.mx) ⟨fun h => by cases a; cases b; simp_all, fun h => by subst h; exact ⟨rfl, rfl, rfl⟩⟩
section
variable {s : ASt} {c : Bool} {x y : Operand} {ty t t' : TypeId}
theorem lop_agg_eql {xs ys : Array Value} {cx cy : List AV} {b : Bool} (hg : Tryz.prog.eqGuardType Tryz.prog.depth t = false) (hx : ∀ (M : Mp) (F : Nat → Prop) (w : World) (u : Value), VR M F w (.agg cx) u → u = .agg xs) (hy : ∀ (M : Mp) (F : Nat → Prop) (w : World) (u : Value), VR M F w (.agg cy) u → u = .agg ys)
    (he : ∀ w : World, (Op.equal t (.agg xs) (.agg ys)).run Tryz.prog w = .ok b w) (h : Ev s c x (.agg cx)) (h' : Ev s c y (.agg cy)) : Lop Tryz.prog (.binOp .eql t x y t') ty s c (.bool b) [] :=
  Lop.pure_ fun M F N n ac w hr hc => ⟨_, .bool _, fun w' o ho _ => by
    have e1 := hx _ _ _ _ (h.vr hr hc)
    have e2 := hy _ _ _ _ (h'.vr hr hc)
    refine run_binOp ho ?_ ?_
    · rw [e1, e2]
      exact run_eqGuard_agg w' .eql _ x y _ _ hg
    · rw [e1, e2]
      simp only [binOp, Sem.run_bind, he, Result.andThen_ok, Sem.run_pure]⟩
theorem lop_agg_neq {xs ys : Array Value} {cx cy : List AV} {b : Bool} (hg : Tryz.prog.eqGuardType Tryz.prog.depth t = false) (hx : ∀ (M : Mp) (F : Nat → Prop) (w : World) (u : Value), VR M F w (.agg cx) u → u = .agg xs) (hy : ∀ (M : Mp) (F : Nat → Prop) (w : World) (u : Value), VR M F w (.agg cy) u → u = .agg ys)
    (he : ∀ w : World, (Op.equal t (.agg xs) (.agg ys)).run Tryz.prog w = .ok b w) (h : Ev s c x (.agg cx)) (h' : Ev s c y (.agg cy)) : Lop Tryz.prog (.binOp .neq t x y t') ty s c (.bool (!b)) [] :=
  Lop.pure_ fun M F N n ac w hr hc => ⟨_, .bool _, fun w' o ho _ => by
    have e1 := hx _ _ _ _ (h.vr hr hc)
    have e2 := hy _ _ _ _ (h'.vr hr hc)
    refine run_binOp ho ?_ ?_
    · rw [e1, e2]
      exact run_eqGuard_agg w' .neq _ x y _ _ hg
    · rw [e1, e2]
      simp only [binOp, Sem.run_bind, he, Result.andThen_ok, Sem.run_pure]⟩
theorem lop_eql_li {a b : Li} (h : Ev s c x (.agg (encLi a))) (h' : Ev s c y (.agg (encLi b))) : Lop Tryz.prog (.binOp .eql 26 x y t') ty s c (.bool (decide (a = b))) [] := by
  have he : decide (a = b) = (a.has == b.has && a.mn == b.mn && a.mx == b.mx) := by rw [Bool.eq_iff_iff]; cases a; cases b; simp [and_assoc]
  rw [he]
  exact lop_agg_eql (by kernel_rfl) (fun _ _ _ _ => agg_l3 vr_bool vr_int vr_int) (fun _ _ _ _ => agg_l3 vr_bool vr_int vr_int) (fun w => eq_li w _ _ _ _ _ _) h h'
theorem lop_neq_im {a b : Im} (ha : StrOk a.mod ∧ StrOk a.nm) (hb : StrOk b.mod ∧ StrOk b.nm) (h : Ev s c x (.agg (encIm a))) (h' : Ev s c y (.agg (encIm b))) : Lop Tryz.prog (.binOp .neq 60 x y t') ty s c (.bool (!decide (a = b))) [] := by
  have he : decide (a = b) = ((strU a.mod).toList == (strU b.mod).toList && (strU a.nm).toList == (strU b.nm).toList && a.ty == b.ty) := by rw [strU_inj ha.1.2 hb.1.2, strU_inj ha.2.2 hb.2.2, Bool.eq_iff_iff]; cases a; cases b; simp [and_assoc]
  rw [he]
  exact lop_agg_neq (by kernel_rfl) (fun _ _ _ _ => agg_l3 vr_str vr_str vr_int) (fun _ _ _ _ => agg_l3 vr_str vr_str vr_int) (fun w => eq_im w _ _ _ _ _ _) h h'
theorem lop_neq_ex {a b : Ex} (ha : StrOk a.nm) (hb : StrOk b.nm) (h : Ev s c x (.agg (encEx a))) (h' : Ev s c y (.agg (encEx b))) : Lop Tryz.prog (.binOp .neq 66 x y t') ty s c (.bool (!decide (a = b))) [] := by
  have he : decide (a = b) = ((strU a.nm).toList == (strU b.nm).toList && a.fn == b.fn) := by rw [strU_inj ha.2 hb.2, Bool.eq_iff_iff]; cases a; cases b; simp
  rw [he]
  exact lop_agg_neq (by kernel_rfl) (fun _ _ _ _ => agg_l2 vr_str vr_int) (fun _ _ _ _ => agg_l2 vr_str vr_int) (fun w => eq_ex w _ _ _ _) h h'
theorem lop_neq_gl {a b : Gl} (h : Ev s c x (.agg (encGl a))) (h' : Ev s c y (.agg (encGl b))) : Lop Tryz.prog (.binOp .neq 64 x y t') ty s c (.bool (!decide (a = b))) [] := by
  have he : decide (a = b) = (a.mu == b.mu && (a.kd == b.kd && a.n == b.n)) := by rw [Bool.eq_iff_iff]; cases a; cases b; simp
  rw [he]
  exact lop_agg_neq (by kernel_rfl) (fun _ _ _ _ => agg_l3 vr_bool vr_int vr_int) (fun _ _ _ _ => agg_l3 vr_bool vr_int vr_int) (fun w => eq_gl w _ _ _ _ _ _) h h'
end
theorem eqs_im (xs ys : List Im) (hox : ∀ x ∈ xs, (fun x : Im => StrOk x.mod ∧ StrOk x.nm) x) (hoy : ∀ y ∈ ys, (fun x : Im => StrOk x.mod ∧ StrOk x.nm) y) : SCall Tryz.prog 119 [.ro 3 (xs.map encIm) .any, .ro 3 (ys.map encIm) .any] [] (fun r σ => r = .bool (decide (xs = ys)) ∧ σ = []) := by
  refine scall_of (n := 26) (ks := [0, 1, 4, 5, 10, 12, 13, 14, 24]) Tryz.func119 rfl rfl (Nat.le_of_ble_eq_true rfl) ?_
  refine sw_max (i := 0) rfl fun hm => ?_
  rw [List.length_map] at hm
  unfold maxLen at hm
  refine sq46 ?_
  refine sq35 ?_
  refine sq20 ?_
  refine sw_cond rfl (fun g1 => ?_) (fun g1 => ?_)
  · have hE : decide (xs = ys) = false := decide_eq_false (by rintro rfl; simp at g1)
    refine sq8 ?_
    apply aend; exact resT
    · exact ⟨by rw [hE]; rfl, rfl⟩
    · exact stleT
  have hl : xs.length = ys.length := by simp at g1; omega
  refine sq7 ?_
  refine sq96 ?_
  refine lp (β := Nat) (fun k => ⟨[(0, .ro 3 (xs.map encIm) .any), (1, .ro 3 (ys.map encIm) .any), (12, .int .i64 xs.length), (13, .int .i64 k)], []⟩) (fun k => k ≤ xs.length ∧ xs.take k = ys.take k) (fun k => xs.length - k) 0 sgoT ⟨Nat.zero_le _, rfl⟩ ?_
  rintro k ⟨hk, ht⟩
  refine sq40 ?_
  refine sw_cond rfl (fun g4 => ?_) (fun g4 => ?_)
  · have hlt : k < xs.length := by simp at g4; omega
    obtain ⟨x, hx⟩ : ∃ x, xs[k]? = some x := ⟨_, List.getElem?_eq_getElem hlt⟩
    obtain ⟨y, hy⟩ : ∃ y, ys[k]? = some y := ⟨_, List.getElem?_eq_getElem (by omega)⟩
    have hox1 := hox x (List.mem_of_getElem? hx)
    have hoy1 := hoy y (List.mem_of_getElem? hy)
    refine sq29 ?_
    refine rgD [(0, true), (1, true), (2, true), (3, true), (4, true), (5, true), (6, true), (7, true), (8, true)] ?_
    refine sq81 ?_
    refine z126 ?_
    refine sq81 ?_
    refine z126 ?_
    refine dlo rfl (lop_neq_im hox1 hoy1 (E rfl) (E rfl)) rfl ?_
    refine sq68 ?_
    refine sw_cond rfl (fun g6 => ?_) (fun g6 => ?_)
    · have hne : x ≠ y := by intro e; subst e; simp at g6
      have hE : decide (xs = ys) = false := decide_eq_false (by rintro rfl; rw [hx] at hy; exact hne (Option.some.inj hy))
      refine sq8 ?_
      apply aend; exact resT
      · exact ⟨by rw [hE]; rfl, rfl⟩
      · exact stleT
    refine sq43 ?_
    have hxy : x = y := by first | simpa using g6 | (simp at g6; omega)
    refine ⟨k + 1, ⟨hlt, by rw [List.take_add_one, List.take_add_one, ht, hx, hy, hxy]⟩, by show xs.length - (k + 1) < xs.length - k; omega, ?_⟩
    exact sgoT
  have hE : decide (xs = ys) = true := decide_eq_true (by simp at g4; rwa [List.take_of_length_le (by omega), List.take_of_length_le (by omega)] at ht)
  refine sq8 ?_
  apply aend; exact resT
  · exact ⟨by rw [hE]; rfl, rfl⟩
  · exact stleT
theorem eqs_ex (xs ys : List Ex) (hox : ∀ x ∈ xs, (fun x : Ex => StrOk x.nm) x) (hoy : ∀ y ∈ ys, (fun x : Ex => StrOk x.nm) y) : SCall Tryz.prog 121 [.ro 2 (xs.map encEx) .any, .ro 2 (ys.map encEx) .any] [] (fun r σ => r = .bool (decide (xs = ys)) ∧ σ = []) := by
  refine scall_of (n := 26) (ks := [0, 1, 4, 5, 10, 12, 13, 14, 24]) Tryz.func121 rfl rfl (Nat.le_of_ble_eq_true rfl) ?_
  refine sw_max (i := 0) rfl fun hm => ?_
  rw [List.length_map] at hm
  unfold maxLen at hm
  refine sq46 ?_
  refine sq35 ?_
  refine sq20 ?_
  refine sw_cond rfl (fun g1 => ?_) (fun g1 => ?_)
  · have hE : decide (xs = ys) = false := decide_eq_false (by rintro rfl; simp at g1)
    refine sq8 ?_
    apply aend; exact resT
    · exact ⟨by rw [hE]; rfl, rfl⟩
    · exact stleT
  have hl : xs.length = ys.length := by simp at g1; omega
  refine sq7 ?_
  refine sq96 ?_
  refine lp (β := Nat) (fun k => ⟨[(0, .ro 2 (xs.map encEx) .any), (1, .ro 2 (ys.map encEx) .any), (12, .int .i64 xs.length), (13, .int .i64 k)], []⟩) (fun k => k ≤ xs.length ∧ xs.take k = ys.take k) (fun k => xs.length - k) 0 sgoT ⟨Nat.zero_le _, rfl⟩ ?_
  rintro k ⟨hk, ht⟩
  refine sq40 ?_
  refine sw_cond rfl (fun g4 => ?_) (fun g4 => ?_)
  · have hlt : k < xs.length := by simp at g4; omega
    obtain ⟨x, hx⟩ : ∃ x, xs[k]? = some x := ⟨_, List.getElem?_eq_getElem hlt⟩
    obtain ⟨y, hy⟩ : ∃ y, ys[k]? = some y := ⟨_, List.getElem?_eq_getElem (by omega)⟩
    have hox1 := hox x (List.mem_of_getElem? hx)
    have hoy1 := hoy y (List.mem_of_getElem? hy)
    refine sq29 ?_
    refine rgD [(0, true), (1, true), (2, true), (3, true), (4, true), (5, true), (6, true), (7, true), (8, true)] ?_
    refine sq81 ?_
    refine z126 ?_
    refine sq81 ?_
    refine z126 ?_
    refine dlo rfl (lop_neq_ex hox1 hoy1 (E rfl) (E rfl)) rfl ?_
    refine sq68 ?_
    refine sw_cond rfl (fun g6 => ?_) (fun g6 => ?_)
    · have hne : x ≠ y := by intro e; subst e; simp at g6
      have hE : decide (xs = ys) = false := decide_eq_false (by rintro rfl; rw [hx] at hy; exact hne (Option.some.inj hy))
      refine sq8 ?_
      apply aend; exact resT
      · exact ⟨by rw [hE]; rfl, rfl⟩
      · exact stleT
    refine sq43 ?_
    have hxy : x = y := by first | simpa using g6 | (simp at g6; omega)
    refine ⟨k + 1, ⟨hlt, by rw [List.take_add_one, List.take_add_one, ht, hx, hy, hxy]⟩, by show xs.length - (k + 1) < xs.length - k; omega, ?_⟩
    exact sgoT
  have hE : decide (xs = ys) = true := decide_eq_true (by simp at g4; rwa [List.take_of_length_le (by omega), List.take_of_length_le (by omega)] at ht)
  refine sq8 ?_
  apply aend; exact resT
  · exact ⟨by rw [hE]; rfl, rfl⟩
  · exact stleT
theorem eqs_gl (xs ys : List Gl) (hox : ∀ x ∈ xs, (fun _ : Gl => True) x) (hoy : ∀ y ∈ ys, (fun _ : Gl => True) y) : SCall Tryz.prog 120 [.ro 3 (xs.map encGl) .any, .ro 3 (ys.map encGl) .any] [] (fun r σ => r = .bool (decide (xs = ys)) ∧ σ = []) := by
  refine scall_of (n := 26) (ks := [0, 1, 4, 5, 10, 12, 13, 14, 24]) Tryz.func120 rfl rfl (Nat.le_of_ble_eq_true rfl) ?_
  refine sw_max (i := 0) rfl fun hm => ?_
  rw [List.length_map] at hm
  unfold maxLen at hm
  refine sq46 ?_
  refine sq35 ?_
  refine sq20 ?_
  refine sw_cond rfl (fun g1 => ?_) (fun g1 => ?_)
  · have hE : decide (xs = ys) = false := decide_eq_false (by rintro rfl; simp at g1)
    refine sq8 ?_
    apply aend; exact resT
    · exact ⟨by rw [hE]; rfl, rfl⟩
    · exact stleT
  have hl : xs.length = ys.length := by simp at g1; omega
  refine sq7 ?_
  refine sq96 ?_
  refine lp (β := Nat) (fun k => ⟨[(0, .ro 3 (xs.map encGl) .any), (1, .ro 3 (ys.map encGl) .any), (12, .int .i64 xs.length), (13, .int .i64 k)], []⟩) (fun k => k ≤ xs.length ∧ xs.take k = ys.take k) (fun k => xs.length - k) 0 sgoT ⟨Nat.zero_le _, rfl⟩ ?_
  rintro k ⟨hk, ht⟩
  refine sq40 ?_
  refine sw_cond rfl (fun g4 => ?_) (fun g4 => ?_)
  · have hlt : k < xs.length := by simp at g4; omega
    obtain ⟨x, hx⟩ : ∃ x, xs[k]? = some x := ⟨_, List.getElem?_eq_getElem hlt⟩
    obtain ⟨y, hy⟩ : ∃ y, ys[k]? = some y := ⟨_, List.getElem?_eq_getElem (by omega)⟩
    have hox1 := hox x (List.mem_of_getElem? hx)
    have hoy1 := hoy y (List.mem_of_getElem? hy)
    refine sq29 ?_
    refine rgD [(0, true), (1, true), (2, true), (3, true), (4, true), (5, true), (6, true), (7, true), (8, true)] ?_
    refine sq81 ?_
    refine z126 ?_
    refine sq81 ?_
    refine z126 ?_
    refine dlo rfl (lop_neq_gl (E rfl) (E rfl)) rfl ?_
    refine sq68 ?_
    refine sw_cond rfl (fun g6 => ?_) (fun g6 => ?_)
    · have hne : x ≠ y := by intro e; subst e; simp at g6
      have hE : decide (xs = ys) = false := decide_eq_false (by rintro rfl; rw [hx] at hy; exact hne (Option.some.inj hy))
      refine sq8 ?_
      apply aend; exact resT
      · exact ⟨by rw [hE]; rfl, rfl⟩
      · exact stleT
    refine sq43 ?_
    have hxy : x = y := by first | simpa using g6 | (simp at g6; omega)
    refine ⟨k + 1, ⟨hlt, by rw [List.take_add_one, List.take_add_one, ht, hx, hy, hxy]⟩, by show xs.length - (k + 1) < xs.length - k; omega, ?_⟩
    exact sgoT
  have hE : decide (xs = ys) = true := decide_eq_true (by simp at g4; rwa [List.take_of_length_le (by omega), List.take_of_length_le (by omega)] at ht)
  refine sq8 ?_
  apply aend; exact resT
  · exact ⟨by rw [hE]; rfl, rfl⟩
  · exact stleT
theorem eqs_u8 (xs ys : List Nat) (hox : ∀ x ∈ xs, (fun _ : Nat => True) x) (hoy : ∀ y ∈ ys, (fun _ : Nat => True) y) : SCall Tryz.prog 118 [.ro 1 (xs.map encU) .any, .ro 1 (ys.map encU) .any] [] (fun r σ => r = .bool (decide (xs = ys)) ∧ σ = []) := by
  refine scall_of (n := 26) (ks := [0, 1, 4, 5, 10, 12, 13, 14, 24]) Tryz.func118 rfl rfl (Nat.le_of_ble_eq_true rfl) ?_
  refine sw_max (i := 0) rfl fun hm => ?_
  rw [List.length_map] at hm
  unfold maxLen at hm
  refine sq46 ?_
  refine sq35 ?_
  refine sq20 ?_
  refine sw_cond rfl (fun g1 => ?_) (fun g1 => ?_)
  · have hE : decide (xs = ys) = false := decide_eq_false (by rintro rfl; simp at g1)
    refine sq8 ?_
    apply aend; exact resT
    · exact ⟨by rw [hE]; rfl, rfl⟩
    · exact stleT
  have hl : xs.length = ys.length := by simp at g1; omega
  refine sq7 ?_
  refine sq96 ?_
  refine lp (β := Nat) (fun k => ⟨[(0, .ro 1 (xs.map encU) .any), (1, .ro 1 (ys.map encU) .any), (12, .int .i64 xs.length), (13, .int .i64 k)], []⟩) (fun k => k ≤ xs.length ∧ xs.take k = ys.take k) (fun k => xs.length - k) 0 sgoT ⟨Nat.zero_le _, rfl⟩ ?_
  rintro k ⟨hk, ht⟩
  refine sq40 ?_
  refine sw_cond rfl (fun g4 => ?_) (fun g4 => ?_)
  · have hlt : k < xs.length := by simp at g4; omega
    obtain ⟨x, hx⟩ : ∃ x, xs[k]? = some x := ⟨_, List.getElem?_eq_getElem hlt⟩
    obtain ⟨y, hy⟩ : ∃ y, ys[k]? = some y := ⟨_, List.getElem?_eq_getElem (by omega)⟩
    have hox1 := hox x (List.mem_of_getElem? hx)
    have hoy1 := hoy y (List.mem_of_getElem? hy)
    refine sq29 ?_
    refine rgD [(0, true), (1, true), (2, true), (3, true), (4, true), (5, true), (6, true), (7, true), (8, true)] ?_
    refine sq81 ?_
    refine z57 ?_
    refine sq81 ?_
    refine z57 ?_
    refine z58 ?_
    refine sq68 ?_
    refine sw_cond rfl (fun g6 => ?_) (fun g6 => ?_)
    · have hz : True := True.intro
      have hne : x ≠ y := by intro e; subst e; simp at g6
      have hE : decide (xs = ys) = false := decide_eq_false (by rintro rfl; rw [hx] at hy; exact hne (Option.some.inj hy))
      refine sq8 ?_
      apply aend; exact resT
      · exact ⟨by rw [hE]; rfl, rfl⟩
      · exact stleT
    refine sq43 ?_
    have hxy : x = y := by first | simpa using g6 | (simp at g6; omega)
    refine ⟨k + 1, ⟨hlt, by rw [List.take_add_one, List.take_add_one, ht, hx, hy, hxy]⟩, by show xs.length - (k + 1) < xs.length - k; omega, ?_⟩
    exact sgoT
  have hE : decide (xs = ys) = true := decide_eq_true (by simp at g4; rwa [List.take_of_length_le (by omega), List.take_of_length_le (by omega)] at ht)
  refine sq8 ?_
  apply aend; exact resT
  · exact ⟨by rw [hE]; rfl, rfl⟩
  · exact stleT
theorem eqf_ft {f : FuncId} {ok : FT → Prop} (hf : (∀ args w, (callFunc f args).run Tryz.prog w = .ok (.enter f args) w) ∧ ∀ x y, ok x → ok y → SCall Tryz.prog f ([] ++ [.agg (encFT x), .agg (encFT y)] ++ []) [] (fun r σ => r = .bool (decide (x = y)) ∧ σ = [])) (xs ys : List FT) (hox : ∀ x ∈ xs, ok x) (hoy : ∀ y ∈ ys, ok y) : SCall Tryz.prog 107 [.ro 2 (xs.map encFT) .any, .ro 2 (ys.map encFT) .any, .fn (.func f) [] []] [] (fun r σ => r = .bool (decide (xs = ys)) ∧ σ = []) := by
  refine scall_of (n := 32) (ks := [0, 1, 2, 6, 7, 8, 9, 14, 15, 16, 17, 18, 30]) Tryz.func107 rfl rfl (Nat.le_of_ble_eq_true rfl) ?_
  refine sw_max (i := 0) rfl fun hm => ?_
  rw [List.length_map] at hm
  unfold maxLen at hm
  refine sq46 ?_
  refine sq35 ?_
  refine sq20 ?_
  refine sw_cond rfl (fun g1 => ?_) (fun g1 => ?_)
  · have hE : decide (xs = ys) = false := decide_eq_false (by rintro rfl; simp at g1)
    refine sq8 ?_
    apply aend; exact resT
    · exact ⟨by rw [hE]; rfl, rfl⟩
    · exact stleT
  have hl : xs.length = ys.length := by simp at g1; omega
  refine sq7 ?_
  refine sq96 ?_
  refine lp (β := Nat) (fun k => ⟨[(1, .ro 2 (ys.map encFT) .any), (2, .fn (.func f) [] []), (15, .ro 2 (xs.map encFT) .any), (16, .int .i64 xs.length), (17, .int .i64 k)], []⟩) (fun k => k ≤ xs.length ∧ xs.take k = ys.take k) (fun k => xs.length - k) 0 sgoT ⟨Nat.zero_le _, rfl⟩ ?_
  rintro k ⟨hk, ht⟩
  refine sq40 ?_
  refine sw_cond rfl (fun g4 => ?_) (fun g4 => ?_)
  · have hlt : k < xs.length := by simp at g4; omega
    obtain ⟨x, hx⟩ : ∃ x, xs[k]? = some x := ⟨_, List.getElem?_eq_getElem hlt⟩
    obtain ⟨y, hy⟩ : ∃ y, ys[k]? = some y := ⟨_, List.getElem?_eq_getElem (by omega)⟩
    refine sq7 ?_
    refine sq59 ?_
    apply al; rfl; (exact zcT); refine freshT fun r8 h8 => ?_; repeat rcases h8 with ⟨_, h8⟩
    refine lo (lop_assign (E rfl)) rfl ?_
    apply stp; rfl; rfl; rfl; rfl; (exact sputT)
    refine sq49 ?_
    refine sq59 ?_
    apply al; rfl; (exact zcT); refine freshT fun r9 h9 => ?_; repeat rcases h9 with ⟨_, h9⟩
    apply stp; rfl; rfl; rfl; rfl; (exact sputT)
    refine sq27 ?_
    refine z99 ?_
    refine z99 ?_
    refine cf_ [] rfl hf.1 (hf.2 x y (hox x (List.mem_of_getElem? hx)) (hoy y (List.mem_of_getElem? hy))) rfl argsleT stleT ?_
    rintro _ σ' ⟨rfl, rfl⟩ h29
    apply rs_sto; exact nflT
    refine sq48 ?_
    refine sw_cond rfl (fun g7 => ?_) (fun g7 => ?_)
    · have hne : x ≠ y := by simpa using g7
      have hE : decide (xs = ys) = false := decide_eq_false (by rintro rfl; rw [hx] at hy; exact hne (Option.some.inj hy))
      refine sq8 ?_
      apply aend; exact resT
      · exact ⟨by rw [hE]; rfl, rfl⟩
      · exact stleT
    refine sq43 ?_
    have hxy : x = y := by simpa using g7
    refine ⟨k + 1, ⟨hlt, by rw [List.take_add_one, List.take_add_one, ht, hx, hy, hxy]⟩, by show xs.length - (k + 1) < xs.length - k; omega, ?_⟩
    exact sgoT
  have hE : decide (xs = ys) = true := decide_eq_true (by simp at g4; rwa [List.take_of_length_le (by omega), List.take_of_length_le (by omega)] at ht)
  refine sq8 ?_
  apply aend; exact resT
  · exact ⟨by rw [hE]; rfl, rfl⟩
  · exact stleT
theorem eqf_el {f : FuncId} {ok : El → Prop} (hf : (∀ args w, (callFunc f args).run Tryz.prog w = .ok (.enter f args) w) ∧ ∀ x y, ok x → ok y → SCall Tryz.prog f ([] ++ [.agg (encEl x), .agg (encEl y)] ++ []) [] (fun r σ => r = .bool (decide (x = y)) ∧ σ = [])) (xs ys : List El) (hox : ∀ x ∈ xs, ok x) (hoy : ∀ y ∈ ys, ok y) : SCall Tryz.prog 110 [.ro 2 (xs.map encEl) .any, .ro 2 (ys.map encEl) .any, .fn (.func f) [] []] [] (fun r σ => r = .bool (decide (xs = ys)) ∧ σ = []) := by
  refine scall_of (n := 32) (ks := [0, 1, 2, 6, 7, 8, 9, 14, 15, 16, 17, 18, 30]) Tryz.func110 rfl rfl (Nat.le_of_ble_eq_true rfl) ?_
  refine sw_max (i := 0) rfl fun hm => ?_
  rw [List.length_map] at hm
  unfold maxLen at hm
  refine sq46 ?_
  refine sq35 ?_
  refine sq20 ?_
  refine sw_cond rfl (fun g1 => ?_) (fun g1 => ?_)
  · have hE : decide (xs = ys) = false := decide_eq_false (by rintro rfl; simp at g1)
    refine sq8 ?_
    apply aend; exact resT
    · exact ⟨by rw [hE]; rfl, rfl⟩
    · exact stleT
  have hl : xs.length = ys.length := by simp at g1; omega
  refine sq7 ?_
  refine sq96 ?_
  refine lp (β := Nat) (fun k => ⟨[(1, .ro 2 (ys.map encEl) .any), (2, .fn (.func f) [] []), (15, .ro 2 (xs.map encEl) .any), (16, .int .i64 xs.length), (17, .int .i64 k)], []⟩) (fun k => k ≤ xs.length ∧ xs.take k = ys.take k) (fun k => xs.length - k) 0 sgoT ⟨Nat.zero_le _, rfl⟩ ?_
  rintro k ⟨hk, ht⟩
  refine sq40 ?_
  refine sw_cond rfl (fun g4 => ?_) (fun g4 => ?_)
  · have hlt : k < xs.length := by simp at g4; omega
    obtain ⟨x, hx⟩ : ∃ x, xs[k]? = some x := ⟨_, List.getElem?_eq_getElem hlt⟩
    obtain ⟨y, hy⟩ : ∃ y, ys[k]? = some y := ⟨_, List.getElem?_eq_getElem (by omega)⟩
    refine sq7 ?_
    refine sq59 ?_
    apply al; rfl; (exact zcT); refine freshT fun r8 h8 => ?_; repeat rcases h8 with ⟨_, h8⟩
    refine lo (lop_assign (E rfl)) rfl ?_
    apply stp; rfl; rfl; rfl; rfl; (exact sputT)
    refine sq49 ?_
    refine sq59 ?_
    apply al; rfl; (exact zcT); refine freshT fun r9 h9 => ?_; repeat rcases h9 with ⟨_, h9⟩
    apply stp; rfl; rfl; rfl; rfl; (exact sputT)
    refine sq27 ?_
    refine z99 ?_
    refine z99 ?_
    refine cf_ [] rfl hf.1 (hf.2 x y (hox x (List.mem_of_getElem? hx)) (hoy y (List.mem_of_getElem? hy))) rfl argsleT stleT ?_
    rintro _ σ' ⟨rfl, rfl⟩ h29
    apply rs_sto; exact nflT
    refine sq48 ?_
    refine sw_cond rfl (fun g7 => ?_) (fun g7 => ?_)
    · have hne : x ≠ y := by simpa using g7
      have hE : decide (xs = ys) = false := decide_eq_false (by rintro rfl; rw [hx] at hy; exact hne (Option.some.inj hy))
      refine sq8 ?_
      apply aend; exact resT
      · exact ⟨by rw [hE]; rfl, rfl⟩
      · exact stleT
    refine sq43 ?_
    have hxy : x = y := by simpa using g7
    refine ⟨k + 1, ⟨hlt, by rw [List.take_add_one, List.take_add_one, ht, hx, hy, hxy]⟩, by show xs.length - (k + 1) < xs.length - k; omega, ?_⟩
    exact sgoT
  have hE : decide (xs = ys) = true := decide_eq_true (by simp at g4; rwa [List.take_of_length_le (by omega), List.take_of_length_le (by omega)] at ht)
  refine sq8 ?_
  apply aend; exact resT
  · exact ⟨by rw [hE]; rfl, rfl⟩
  · exact stleT
theorem eqf_co {f : FuncId} {ok : Co → Prop} (hf : (∀ args w, (callFunc f args).run Tryz.prog w = .ok (.enter f args) w) ∧ ∀ x y, ok x → ok y → SCall Tryz.prog f ([] ++ [.agg (encCo x), .agg (encCo y)] ++ []) [] (fun r σ => r = .bool (decide (x = y)) ∧ σ = [])) (xs ys : List Co) (hox : ∀ x ∈ xs, ok x) (hoy : ∀ y ∈ ys, ok y) : SCall Tryz.prog 112 [.ro 2 (xs.map encCo) .any, .ro 2 (ys.map encCo) .any, .fn (.func f) [] []] [] (fun r σ => r = .bool (decide (xs = ys)) ∧ σ = []) := by
  refine scall_of (n := 32) (ks := [0, 1, 2, 6, 7, 8, 9, 14, 15, 16, 17, 18, 30]) Tryz.func112 rfl rfl (Nat.le_of_ble_eq_true rfl) ?_
  refine sw_max (i := 0) rfl fun hm => ?_
  rw [List.length_map] at hm
  unfold maxLen at hm
  refine sq46 ?_
  refine sq35 ?_
  refine sq20 ?_
  refine sw_cond rfl (fun g1 => ?_) (fun g1 => ?_)
  · have hE : decide (xs = ys) = false := decide_eq_false (by rintro rfl; simp at g1)
    refine sq8 ?_
    apply aend; exact resT
    · exact ⟨by rw [hE]; rfl, rfl⟩
    · exact stleT
  have hl : xs.length = ys.length := by simp at g1; omega
  refine sq7 ?_
  refine sq96 ?_
  refine lp (β := Nat) (fun k => ⟨[(1, .ro 2 (ys.map encCo) .any), (2, .fn (.func f) [] []), (15, .ro 2 (xs.map encCo) .any), (16, .int .i64 xs.length), (17, .int .i64 k)], []⟩) (fun k => k ≤ xs.length ∧ xs.take k = ys.take k) (fun k => xs.length - k) 0 sgoT ⟨Nat.zero_le _, rfl⟩ ?_
  rintro k ⟨hk, ht⟩
  refine sq40 ?_
  refine sw_cond rfl (fun g4 => ?_) (fun g4 => ?_)
  · have hlt : k < xs.length := by simp at g4; omega
    obtain ⟨x, hx⟩ : ∃ x, xs[k]? = some x := ⟨_, List.getElem?_eq_getElem hlt⟩
    obtain ⟨y, hy⟩ : ∃ y, ys[k]? = some y := ⟨_, List.getElem?_eq_getElem (by omega)⟩
    refine sq7 ?_
    refine sq59 ?_
    apply al; rfl; (exact zcT); refine freshT fun r8 h8 => ?_; repeat rcases h8 with ⟨_, h8⟩
    refine lo (lop_assign (E rfl)) rfl ?_
    apply stp; rfl; rfl; rfl; rfl; (exact sputT)
    refine sq49 ?_
    refine sq59 ?_
    apply al; rfl; (exact zcT); refine freshT fun r9 h9 => ?_; repeat rcases h9 with ⟨_, h9⟩
    apply stp; rfl; rfl; rfl; rfl; (exact sputT)
    refine sq27 ?_
    refine z99 ?_
    refine z99 ?_
    refine cf_ [] rfl hf.1 (hf.2 x y (hox x (List.mem_of_getElem? hx)) (hoy y (List.mem_of_getElem? hy))) rfl argsleT stleT ?_
    rintro _ σ' ⟨rfl, rfl⟩ h29
    apply rs_sto; exact nflT
    refine sq48 ?_
    refine sw_cond rfl (fun g7 => ?_) (fun g7 => ?_)
    · have hne : x ≠ y := by simpa using g7
      have hE : decide (xs = ys) = false := decide_eq_false (by rintro rfl; rw [hx] at hy; exact hne (Option.some.inj hy))
      refine sq8 ?_
      apply aend; exact resT
      · exact ⟨by rw [hE]; rfl, rfl⟩
      · exact stleT
    refine sq43 ?_
    have hxy : x = y := by simpa using g7
    refine ⟨k + 1, ⟨hlt, by rw [List.take_add_one, List.take_add_one, ht, hx, hy, hxy]⟩, by show xs.length - (k + 1) < xs.length - k; omega, ?_⟩
    exact sgoT
  have hE : decide (xs = ys) = true := decide_eq_true (by simp at g4; rwa [List.take_of_length_le (by omega), List.take_of_length_le (by omega)] at ht)
  refine sq8 ?_
  apply aend; exact resT
  · exact ⟨by rw [hE]; rfl, rfl⟩
  · exact stleT
theorem eqf_da {f : FuncId} {ok : Da → Prop} (hf : (∀ args w, (callFunc f args).run Tryz.prog w = .ok (.enter f args) w) ∧ ∀ x y, ok x → ok y → SCall Tryz.prog f ([] ++ [.agg (encDa x), .agg (encDa y)] ++ []) [] (fun r σ => r = .bool (decide (x = y)) ∧ σ = [])) (xs ys : List Da) (hox : ∀ x ∈ xs, ok x) (hoy : ∀ y ∈ ys, ok y) : SCall Tryz.prog 116 [.ro 2 (xs.map encDa) .any, .ro 2 (ys.map encDa) .any, .fn (.func f) [] []] [] (fun r σ => r = .bool (decide (xs = ys)) ∧ σ = []) := by
  refine scall_of (n := 32) (ks := [0, 1, 2, 6, 7, 8, 9, 14, 15, 16, 17, 18, 30]) Tryz.func116 rfl rfl (Nat.le_of_ble_eq_true rfl) ?_
  refine sw_max (i := 0) rfl fun hm => ?_
  rw [List.length_map] at hm
  unfold maxLen at hm
  refine sq46 ?_
  refine sq35 ?_
  refine sq20 ?_
  refine sw_cond rfl (fun g1 => ?_) (fun g1 => ?_)
  · have hE : decide (xs = ys) = false := decide_eq_false (by rintro rfl; simp at g1)
    refine sq8 ?_
    apply aend; exact resT
    · exact ⟨by rw [hE]; rfl, rfl⟩
    · exact stleT
  have hl : xs.length = ys.length := by simp at g1; omega
  refine sq7 ?_
  refine sq96 ?_
  refine lp (β := Nat) (fun k => ⟨[(1, .ro 2 (ys.map encDa) .any), (2, .fn (.func f) [] []), (15, .ro 2 (xs.map encDa) .any), (16, .int .i64 xs.length), (17, .int .i64 k)], []⟩) (fun k => k ≤ xs.length ∧ xs.take k = ys.take k) (fun k => xs.length - k) 0 sgoT ⟨Nat.zero_le _, rfl⟩ ?_
  rintro k ⟨hk, ht⟩
  refine sq40 ?_
  refine sw_cond rfl (fun g4 => ?_) (fun g4 => ?_)
  · have hlt : k < xs.length := by simp at g4; omega
    obtain ⟨x, hx⟩ : ∃ x, xs[k]? = some x := ⟨_, List.getElem?_eq_getElem hlt⟩
    obtain ⟨y, hy⟩ : ∃ y, ys[k]? = some y := ⟨_, List.getElem?_eq_getElem (by omega)⟩
    refine sq7 ?_
    refine sq59 ?_
    apply al; rfl; (exact zcT); refine freshT fun r8 h8 => ?_; repeat rcases h8 with ⟨_, h8⟩
    refine lo (lop_assign (E rfl)) rfl ?_
    apply stp; rfl; rfl; rfl; rfl; (exact sputT)
    refine sq49 ?_
    refine sq59 ?_
    apply al; rfl; (exact zcT); refine freshT fun r9 h9 => ?_; repeat rcases h9 with ⟨_, h9⟩
    apply stp; rfl; rfl; rfl; rfl; (exact sputT)
    refine sq27 ?_
    refine z99 ?_
    refine z99 ?_
    refine cf_ [] rfl hf.1 (hf.2 x y (hox x (List.mem_of_getElem? hx)) (hoy y (List.mem_of_getElem? hy))) rfl argsleT stleT ?_
    rintro _ σ' ⟨rfl, rfl⟩ h29
    apply rs_sto; exact nflT
    refine sq48 ?_
    refine sw_cond rfl (fun g7 => ?_) (fun g7 => ?_)
    · have hne : x ≠ y := by simpa using g7
      have hE : decide (xs = ys) = false := decide_eq_false (by rintro rfl; rw [hx] at hy; exact hne (Option.some.inj hy))
      refine sq8 ?_
      apply aend; exact resT
      · exact ⟨by rw [hE]; rfl, rfl⟩
      · exact stleT
    refine sq43 ?_
    have hxy : x = y := by simpa using g7
    refine ⟨k + 1, ⟨hlt, by rw [List.take_add_one, List.take_add_one, ht, hx, hy, hxy]⟩, by show xs.length - (k + 1) < xs.length - k; omega, ?_⟩
    exact sgoT
  have hE : decide (xs = ys) = true := decide_eq_true (by simp at g4; rwa [List.take_of_length_le (by omega), List.take_of_length_le (by omega)] at ht)
  refine sq8 ?_
  apply aend; exact resT
  · exact ⟨by rw [hE]; rfl, rfl⟩
  · exact stleT
theorem eqf_ins {f : FuncId} {ok : Ins → Prop} (hf : (∀ args w, (callFunc f args).run Tryz.prog w = .ok (.enter f args) w) ∧ ∀ x y, ok x → ok y → SCall Tryz.prog f ([] ++ [.agg ((iv .any) x), .agg ((iv .any) y)] ++ []) [] (fun r σ => r = .bool (decide (x = y)) ∧ σ = [])) (xs ys : List Ins) (hox : ∀ x ∈ xs, ok x) (hoy : ∀ y ∈ ys, ok y) : SCall Tryz.prog 114 [.ro 4 (xs.map (iv .any)) .any, .ro 4 (ys.map (iv .any)) .any, .fn (.func f) [] []] [] (fun r σ => r = .bool (decide (xs = ys)) ∧ σ = []) := by
  refine scall_of (n := 32) (ks := [0, 1, 2, 6, 7, 8, 9, 14, 15, 16, 17, 18, 30]) Tryz.func114 rfl rfl (Nat.le_of_ble_eq_true rfl) ?_
  refine sw_max (i := 0) rfl fun hm => ?_
  rw [List.length_map] at hm
  unfold maxLen at hm
  refine sq46 ?_
  refine sq35 ?_
  refine sq20 ?_
  refine sw_cond rfl (fun g1 => ?_) (fun g1 => ?_)
  · have hE : decide (xs = ys) = false := decide_eq_false (by rintro rfl; simp at g1)
    refine sq8 ?_
    apply aend; exact resT
    · exact ⟨by rw [hE]; rfl, rfl⟩
    · exact stleT
  have hl : xs.length = ys.length := by simp at g1; omega
  refine sq7 ?_
  refine sq96 ?_
  refine lp (β := Nat) (fun k => ⟨[(1, .ro 4 (ys.map (iv .any)) .any), (2, .fn (.func f) [] []), (15, .ro 4 (xs.map (iv .any)) .any), (16, .int .i64 xs.length), (17, .int .i64 k)], []⟩) (fun k => k ≤ xs.length ∧ xs.take k = ys.take k) (fun k => xs.length - k) 0 sgoT ⟨Nat.zero_le _, rfl⟩ ?_
  rintro k ⟨hk, ht⟩
  refine sq40 ?_
  refine sw_cond rfl (fun g4 => ?_) (fun g4 => ?_)
  · have hlt : k < xs.length := by simp at g4; omega
    obtain ⟨x, hx⟩ : ∃ x, xs[k]? = some x := ⟨_, List.getElem?_eq_getElem hlt⟩
    obtain ⟨y, hy⟩ : ∃ y, ys[k]? = some y := ⟨_, List.getElem?_eq_getElem (by omega)⟩
    refine sq7 ?_
    refine sq59 ?_
    apply al; rfl; (exact zcT); refine freshT fun r8 h8 => ?_; repeat rcases h8 with ⟨_, h8⟩
    refine lo (lop_assign (E rfl)) rfl ?_
    apply stp; rfl; rfl; rfl; rfl; (exact sputT)
    refine sq49 ?_
    refine sq59 ?_
    apply al; rfl; (exact zcT); refine freshT fun r9 h9 => ?_; repeat rcases h9 with ⟨_, h9⟩
    apply stp; rfl; rfl; rfl; rfl; (exact sputT)
    refine sq27 ?_
    refine z99 ?_
    refine z99 ?_
    refine cf_ [] rfl hf.1 (hf.2 x y (hox x (List.mem_of_getElem? hx)) (hoy y (List.mem_of_getElem? hy))) rfl argsleT stleT ?_
    rintro _ σ' ⟨rfl, rfl⟩ h29
    apply rs_sto; exact nflT
    refine sq48 ?_
    refine sw_cond rfl (fun g7 => ?_) (fun g7 => ?_)
    · have hne : x ≠ y := by simpa using g7
      have hE : decide (xs = ys) = false := decide_eq_false (by rintro rfl; rw [hx] at hy; exact hne (Option.some.inj hy))
      refine sq8 ?_
      apply aend; exact resT
      · exact ⟨by rw [hE]; rfl, rfl⟩
      · exact stleT
    refine sq43 ?_
    have hxy : x = y := by simpa using g7
    refine ⟨k + 1, ⟨hlt, by rw [List.take_add_one, List.take_add_one, ht, hx, hy, hxy]⟩, by show xs.length - (k + 1) < xs.length - k; omega, ?_⟩
    exact sgoT
  have hE : decide (xs = ys) = true := decide_eq_true (by simp at g4; rwa [List.take_of_length_le (by omega), List.take_of_length_le (by omega)] at ht)
  refine sq8 ?_
  apply aend; exact resT
  · exact ⟨by rw [hE]; rfl, rfl⟩
  · exact stleT
end Go.Proofs.YthhlimmcncbopaaGreat
/-
  Modules against one another.
-/
namespace Go.Proofs.YthhlimmcncbopaaGreat
open Go.RowKit Go.ChangeShapes Go.WideShapes Go.ChangeAt Go.Deep
attribute [local irreducible] SW RS RD AThen ABlock
/-- part by part -/
def eqM (a b : Md) : Bool := decide (a.ty = b.ty) && decide (a.el = b.el) && decide (a.co = b.co) && decide (a.da = b.da) && decide (a.im = b.im) && decide (a.fn = b.fn) && decide (a.tb = b.tb) && decide (a.me = b.me) && decide (a.gl = b.gl) && decide (a.ex = b.ex)
theorem eqM_iff {a b : Md} : eqM a b = true ↔ a = b := by
  unfold eqM
  simp only [Bool.and_eq_true, decide_eq_true_eq]
  constructor
  · rintro ⟨⟨⟨⟨⟨⟨⟨⟨⟨h1, h2⟩, h3⟩, h4⟩, h5⟩, h6⟩, h7⟩, h8⟩, h9⟩, h10⟩
    cases a; cases b; simp_all
  · rintro rfl
    simp
theorem eqM_self (a : Md) : eqM a a = true := eqM_iff.2 rfl
theorem dec_ins (x y : Ins) : eqN x y = decide (x = y) := by
  rw [Bool.eq_iff_iff, eqN_iff, decide_eq_true_iff]
theorem eq_instr : (∀ args w, (callFunc 115 args).run Tryz.prog w = .ok (.enter 115 args) w) ∧ ∀ x y : Ins, True → True → SCall Tryz.prog 115 ([] ++ [.agg (iv .any x), .agg (iv .any y)] ++ []) [] (fun r σ => r = .bool (decide (x = y)) ∧ σ = []) :=
  ⟨Tryz.call115, fun x y _ _ => by rw [← dec_ins]; exact instr_eq .any .any x y⟩
theorem eq_type : (∀ args w, (callFunc 108 args).run Tryz.prog w = .ok (.enter 108 args) w) ∧ ∀ x y : FT, True → True → SCall Tryz.prog 108 ([] ++ [.agg (encFT x), .agg (encFT y)] ++ []) [] (fun r σ => r = .bool (decide (x = y)) ∧ σ = []) := by
  refine ⟨Tryz.call108, fun x y _ _ => ?_⟩
  obtain ⟨p1, v1⟩ := x
  obtain ⟨p2, v2⟩ := y
  have hE : decide ((⟨p1, v1⟩ : FT) = ⟨p2, v2⟩) = if decide (p1 = p2) = true then decide (v1 = v2) else false := by rw [ite_and, Bool.eq_iff_iff]; simp
  refine scall_of (n := 17) (ks := [0, 1, 2, 3, 4]) Tryz.func108 rfl rfl (Nat.le_of_ble_eq_true rfl) ?_
  unfold encFT
  refine sq3 ?_
  apply bx; rfl; rfl; (exact zcT); rfl; refine freshT fun r2 h2 => ?_; repeat rcases h2 with ⟨_, h2⟩
  apply bx; rfl; rfl; (exact zcT); rfl; refine freshT fun r3 h3 => ?_; repeat rcases h3 with ⟨_, h3⟩
  refine sq41 ?_
  refine sq11 ?_
  refine puA Tryz.call109 (lib_equal_int p1 p2) rfl pargsT nofT ?_
  refine sq50 ?_
  refine z114 ?_
  refine z115 ?_
  refine pugA rfl rfl Tryz.call109 (fun _ => (lib_equal_int v1 v2)) rfl pargsT nofT ?_
  refine sq31 ?_
  apply aend; exact resT
  · exact ⟨by rw [hE]; rfl, rfl⟩
  · exact stleT
theorem eq_elem : (∀ args w, (callFunc 111 args).run Tryz.prog w = .ok (.enter 111 args) w) ∧ ∀ x y : El, True → True → SCall Tryz.prog 111 ([] ++ [.agg (encEl x), .agg (encEl y)] ++ []) [] (fun r σ => r = .bool (decide (x = y)) ∧ σ = []) := by
  refine ⟨Tryz.call111, fun x y _ _ => ?_⟩
  obtain ⟨p1, v1⟩ := x
  obtain ⟨p2, v2⟩ := y
  have hE : decide ((⟨p1, v1⟩ : El) = ⟨p2, v2⟩) = if (p1 == p2) = true then decide (v1 = v2) else false := by rw [ite_and, Bool.eq_iff_iff]; simp
  refine scall_of (n := 17) (ks := [0, 1, 2, 3, 4]) Tryz.func111 rfl rfl (Nat.le_of_ble_eq_true rfl) ?_
  unfold encEl
  refine sq3 ?_
  apply bx; rfl; rfl; (exact zcT); rfl; refine freshT fun r2 h2 => ?_; repeat rcases h2 with ⟨_, h2⟩
  apply bx; rfl; rfl; (exact zcT); rfl; refine freshT fun r3 h3 => ?_; repeat rcases h3 with ⟨_, h3⟩
  refine sq41 ?_
  refine sq11 ?_
  refine sq101 ?_
  refine z114 ?_
  refine z115 ?_
  refine pugA rfl rfl Tryz.call109 (fun _ => (lib_equal_int v1 v2)) rfl pargsT nofT ?_
  refine sq31 ?_
  apply aend; exact resT
  · exact ⟨by rw [hE]; rfl, rfl⟩
  · exact stleT
theorem eq_code : (∀ args w, (callFunc 113 args).run Tryz.prog w = .ok (.enter 113 args) w) ∧ ∀ x y : Co, True → True → SCall Tryz.prog 113 ([] ++ [.agg (encCo x), .agg (encCo y)] ++ []) [] (fun r σ => r = .bool (decide (x = y)) ∧ σ = []) := by
  refine ⟨Tryz.call113, fun x y _ _ => ?_⟩
  obtain ⟨p1, v1⟩ := x
  obtain ⟨p2, v2⟩ := y
  have hE : decide ((⟨p1, v1⟩ : Co) = ⟨p2, v2⟩) = if decide (p1 = p2) = true then decide (v1 = v2) else false := by rw [ite_and, Bool.eq_iff_iff]; simp
  refine scall_of (n := 17) (ks := [0, 1, 2, 3, 4]) Tryz.func113 rfl rfl (Nat.le_of_ble_eq_true rfl) ?_
  unfold encCo
  refine sq3 ?_
  apply bx; rfl; rfl; (exact zcT); rfl; refine freshT fun r2 h2 => ?_; repeat rcases h2 with ⟨_, h2⟩
  apply bx; rfl; rfl; (exact zcT); rfl; refine freshT fun r3 h3 => ?_; repeat rcases h3 with ⟨_, h3⟩
  refine sq41 ?_
  refine sq11 ?_
  refine puA Tryz.call109 (lib_equal_int p1 p2) rfl pargsT nofT ?_
  refine sq50 ?_
  refine z114 ?_
  refine z115 ?_
  refine pugA rfl rfl Tryz.call114 (fun _ => (eqf_ins eq_instr v1 v2 (fun _ _ => True.intro) (fun _ _ => True.intro))) rfl pargsT nofT ?_
  refine sq31 ?_
  apply aend; exact resT
  · exact ⟨by rw [hE]; rfl, rfl⟩
  · exact stleT
theorem eq_data : (∀ args w, (callFunc 117 args).run Tryz.prog w = .ok (.enter 117 args) w) ∧ ∀ x y : Da, True → True → SCall Tryz.prog 117 ([] ++ [.agg (encDa x), .agg (encDa y)] ++ []) [] (fun r σ => r = .bool (decide (x = y)) ∧ σ = []) := by
  refine ⟨Tryz.call117, fun x y _ _ => ?_⟩
  obtain ⟨p1, v1⟩ := x
  obtain ⟨p2, v2⟩ := y
  have hE : decide ((⟨p1, v1⟩ : Da) = ⟨p2, v2⟩) = if (p1 == p2) = true then decide (v1 = v2) else false := by rw [ite_and, Bool.eq_iff_iff]; simp
  refine scall_of (n := 17) (ks := [0, 1, 2, 3, 4]) Tryz.func117 rfl rfl (Nat.le_of_ble_eq_true rfl) ?_
  unfold encDa
  refine sq3 ?_
  apply bx; rfl; rfl; (exact zcT); rfl; refine freshT fun r2 h2 => ?_; repeat rcases h2 with ⟨_, h2⟩
  apply bx; rfl; rfl; (exact zcT); rfl; refine freshT fun r3 h3 => ?_; repeat rcases h3 with ⟨_, h3⟩
  refine sq41 ?_
  refine sq11 ?_
  refine sq101 ?_
  refine z114 ?_
  refine z115 ?_
  refine pugA rfl rfl Tryz.call118 (fun _ => (eqs_u8 v1 v2 (fun _ _ => True.intro) (fun _ _ => True.intro))) rfl pargsT nofT ?_
  refine sq31 ?_
  apply aend; exact resT
  · exact ⟨by rw [hE]; rfl, rfl⟩
  · exact stleT
theorem wasm_eq (a c : Md) (ha : a.W) (hc : c.W) : SCall Tryz.prog 75 [.agg (encMd a), .agg (encMd c)] [] (fun r σ => r = .bool (eqM a c) ∧ σ = []) := by
  obtain ⟨a1, a2, -, -, -⟩ := ha
  obtain ⟨c1, c2, -, -, -⟩ := hc
  obtain ⟨ty, im, fn, tb, me, gl, ex, el, co, da⟩ := a
  obtain ⟨ty', im', fn', tb', me', gl', ex', el', co', da'⟩ := c
  dsimp only at a1 a2 c1 c2
  have hE : ∀ (a b c d e f g h i j : Bool), (if (if (if (if (if (if (if (if (if a = true then b else false) = true then c else false) = true then d else false) = true then e else false) = true then f else false) = true then g else false) = true then h else false) = true then i else false) = true then j else false) = (a && b && c && d && e && f && g && h && i && j) := by
    intro a b c d e f g h i j; simp only [ite_and]
  refine scall_of (n := 81) (ks := [0, 1, 2, 3, 4, 5, 6, 7, 8]) Tryz.func75 rfl rfl (Nat.le_of_ble_eq_true rfl) ?_
  unfold encMd
  dsimp only
  refine sq3 ?_
  apply bx; rfl; rfl; (exact zcT); rfl; refine freshT fun r2 h2 => ?_; repeat rcases h2 with ⟨_, h2⟩
  apply bx; rfl; rfl; (exact zcT); rfl; refine freshT fun r3 h3 => ?_; repeat rcases h3 with ⟨_, h3⟩
  refine sq41 ?_
  refine sq11 ?_
  refine puA Tryz.call107 (eqf_ft eq_type ty ty' (fun _ _ => True.intro) (fun _ _ => True.intro)) rfl pargsT nofT ?_
  refine sq41 ?_
  refine sq11 ?_
  refine puA Tryz.call110 (eqf_el eq_elem el el' (fun _ _ => True.intro) (fun _ _ => True.intro)) rfl pargsT nofT ?_
  refine sq41 ?_
  refine sq11 ?_
  refine puA Tryz.call112 (eqf_co eq_code co co' (fun _ _ => True.intro) (fun _ _ => True.intro)) rfl pargsT nofT ?_
  refine sq41 ?_
  refine sq11 ?_
  refine puA Tryz.call116 (eqf_da eq_data da da' (fun _ _ => True.intro) (fun _ _ => True.intro)) rfl pargsT nofT ?_
  refine sq64 ?_
  refine z109 ?_
  refine z68 ?_
  refine sq10 ?_
  refine z68 ?_
  refine sq10 ?_
  refine z68 ?_
  refine sq50 ?_
  refine z114 ?_
  refine z115 ?_
  refine pugA rfl rfl Tryz.call119 (fun _ => (eqs_im im im' a1 c1)) rfl pargsT nofT ?_
  refine z68 ?_
  refine sq50 ?_
  refine z114 ?_
  refine z115 ?_
  refine pugA rfl rfl Tryz.call109 (fun _ => (lib_equal_int fn fn')) rfl pargsT nofT ?_
  refine z68 ?_
  refine sq21 ?_
  refine z140 ?_
  refine z114 ?_
  refine z140 ?_
  refine lg rfl rfl (lop_eql_li (a := tb) (b := tb') (W rfl id) (W rfl id)) rfl ?_
  refine z68 ?_
  refine sq21 ?_
  refine z140 ?_
  refine z114 ?_
  refine z140 ?_
  refine lg rfl rfl (lop_eql_li (a := me) (b := me') (W rfl id) (W rfl id)) rfl ?_
  refine z68 ?_
  refine sq50 ?_
  refine z114 ?_
  refine z115 ?_
  refine pugA rfl rfl Tryz.call120 (fun _ => (eqs_gl gl gl' (fun _ _ => True.intro) (fun _ _ => True.intro))) rfl pargsT nofT ?_
  refine z68 ?_
  refine sq50 ?_
  refine z114 ?_
  refine z115 ?_
  refine pugA rfl rfl Tryz.call121 (fun _ => (eqs_ex ex ex' a2 c2)) rfl pargsT nofT ?_
  refine sq31 ?_
  apply aend; exact resT
  · exact ⟨by simp only [resAV]; rw [hE]; rfl, rfl⟩
  · exact stleT
/-
  The statements' Cut: a module that is not too great.
-/
theorem ite_lt {a b : Nat} {x : Nat} (h : (if decide ((x : Int) < (a : Nat)) = true then decide ((x : Int) < (b : Nat)) else false) = true) : x < a ∧ x < b := by
  rw [ite_and] at h
  simp only [Bool.and_eq_true, decide_eq_true_eq] at h
  omega
end Go.Proofs.YthhlimmcncbopaaGreat
/-
  The module that adds two.
-/
namespace Go.Proofs.YthhlimmcncbopaaGreat
open Go.RowKit Go.ChangeShapes Go.WideShapes Go.ChangeAt Go.Deep
def smallM : Md := ⟨[⟨[1, 1], [1]⟩], [], [0], li0, li0, [], [⟨[97, 100, 100], 0⟩], [], [⟨[], [⟨32, 0, 0, []⟩, ⟨32, 1, 0, []⟩, ⟨106, 0, 0, []⟩]⟩], []⟩
def fun0 : Md := { md0 with fn := [0] }
theorem small_wo : smallM.WO := by
  refine ⟨⟨by simp [smallM], ?_, ?_, by simp [smallM], by simp [smallM]⟩, ?_, by simp [smallM]⟩
  · intro x hx
    obtain rfl : x = ⟨[97, 100, 100], 0⟩ := by simpa [smallM] using hx
    exact ⟨by decide, by decide⟩
  · intro x hx
    obtain rfl : x = ⟨[], [⟨32, 0, 0, []⟩, ⟨32, 1, 0, []⟩, ⟨106, 0, 0, []⟩]⟩ := by simpa [smallM] using hx
    decide
  · intro x hx
    obtain rfl : x = ⟨[], [⟨32, 0, 0, []⟩, ⟨32, 1, 0, []⟩, ⟨106, 0, 0, []⟩]⟩ := by simpa [smallM] using hx
    intro i hi
    simp only [List.mem_cons, List.not_mem_nil, or_false] at hi
    rcases hi with rfl | rfl | rfl <;> exact ⟨by decide, by decide, by decide, by decide, by decide⟩
theorem small_a : mayA smallM = true := by decide
theorem small_w : (writB smallM).length ≤ 8000 ∧ 8 < (writB smallM).length := by
  have h1 : putN ⟨32, 0, 0, []⟩ = [32, 0] := by
    have f : formN 32 = 3 := by decide
    simp [putN, putT, f, uB_lo]
  have h2 : putN ⟨32, 1, 0, []⟩ = [32, 1] := by
    have f : formN 32 = 3 := by decide
    simp [putN, putT, f, uB_lo]
  have h3 : putN ⟨106, 0, 0, []⟩ = [106] := by
    have f : formN 106 = 1 := by decide
    simp [putN, putT, f]
  have : (writB smallM).length = 41 := by
    simp [writB, smallM, headB, secB, vecB, uB_lo, ftB, kB, numB, exB, txtB, codB, runsN, putL, h1, h2, h3, oneL, li0]
  omega
theorem small_may : mayM smallM = true := by
  rw [mayM_eq, small_a, Bool.true_and]
  exact decide_eq_true small_w.1
theorem enc_small : encB smallM = writB smallM := if_pos small_may
theorem dec_small : decM (encB smallM) = (smallM, 0) := by rw [enc_small]; exact dec_back small_may small_wo.ok
theorem small_lt : ∀ c ∈ encB smallM, c < 256 := encB_lt small_wo
theorem md0_may : mayM md0 = true := by
  have h : (writB md0).length = 8 := by simp [writB, md0, headB, secB, oneL, li0]
  rw [mayM_eq, show mayA md0 = true by decide, Bool.true_and, h]
  decide
theorem enc_md0 : (encB md0).length = 8 := by
  unfold encB
  rw [if_pos md0_may]
  simp [writB, md0, headB, secB, oneL, li0]
theorem fun0_wo : fun0.WO := ⟨⟨by simp [fun0, md0], by simp [fun0, md0], by simp [fun0, md0], by simp [fun0, md0], by simp [fun0, md0]⟩, by simp [fun0, md0], by simp [fun0, md0]⟩
theorem fun0_may : mayM fun0 = false := by rw [mayM_eq, show mayA fun0 = false by decide]; rfl
theorem dec_x : decM [120] = (md0, 1) := by
  unfold decM
  rw [if_neg (by decide), if_pos (by decide)]
theorem small_ne : eqM smallM md0 = false := by decide
end Go.Proofs.YthhlimmcncbopaaGreat
/-
  The module that adds two goes to bytes and back.
-/
namespace Go.Proofs.YthhlimmcncbopaaGreat
open Go.RowKit Go.ChangeShapes Go.WideShapes Go.ChangeAt Go.Deep
attribute [local irreducible] SW RS RD AThen ABlock
/-- an instruction without a list -/
def encNl (x : Ins) : List AV := [.int .i64 x.op, .int .i64 x.a, .int .i64 x.b, .ro 0 [] .nil]
theorem vle_nl {l : List Ins} (h : ∀ x ∈ l, x.l = []) {k : Rk} : VLe (.ro 4 (l.map encNl) k) (.ro 4 (l.map (iv .any)) k) := by
  refine VLe.ro (by simp) ?_ ?_
  · intro x hx
    simp only [List.mem_map] at hx
    obtain ⟨o, -, rfl⟩ := hx
    exact ⟨rfl, by simp [iv, AV.cell]⟩
  · intro i e e' h1 h2
    simp only [List.getElem?_map, Option.map_eq_some_iff] at h1 h2
    obtain ⟨o, ho, rfl⟩ := h1
    obtain ⟨o', ho', rfl⟩ := h2
    obtain rfl := Option.some.inj (ho.symm.trans ho')
    have hl := h o (List.mem_of_getElem? ho)
    refine ⟨rfl, fun j a a' ha ha' => ?_⟩
    unfold iv at ha'
    rw [hl] at ha'
    match j with
    | 0 => cases ha; cases ha'; exact VLe.refl _
    | 1 => cases ha; cases ha'; exact VLe.refl _
    | 2 => cases ha; cases ha'; exact VLe.refl _
    | 3 => cases ha; cases ha'; exact VLe.empty
    | _ + 4 => cases ha
theorem vle_nco {es : List (List AV)} : VLe (.agg [.ro 0 [] .nil, .ro 4 es .any]) (.agg [.ro 1 ([].map encI) .any, .ro 4 es .any]) := by
  refine VLe.agg rfl fun j a a' ha ha' => ?_
  match j with
  | 0 => cases ha; cases ha'; exact VLe.empty
  | 1 => cases ha; cases ha'; exact VLe.refl _
  | _ + 2 => cases ha
theorem vle_md0 : VLe (.agg [.ro 0 [] .nil, .ro 0 [] .nil, .ro 0 [] .nil, .bool false, .int .i64 0, .int .i64 0, .bool false, .int .i64 0, .int .i64 0, .ro 0 [] .nil, .ro 0 [] .nil, .ro 0 [] .nil, .ro 0 [] .nil, .ro 0 [] .nil]) (.agg (encMd md0)) := by
  refine VLe.agg rfl fun j a a' ha ha' => ?_
  match j with
  | 0 => cases ha; cases ha'; exact VLe.empty
  | 1 => cases ha; cases ha'; exact VLe.empty
  | 2 => cases ha; cases ha'; exact VLe.empty
  | 3 => cases ha; cases ha'; exact VLe.refl _
  | 4 => cases ha; cases ha'; exact VLe.refl _
  | 5 => cases ha; cases ha'; exact VLe.refl _
  | 6 => cases ha; cases ha'; exact VLe.refl _
  | 7 => cases ha; cases ha'; exact VLe.refl _
  | 8 => cases ha; cases ha'; exact VLe.refl _
  | 9 => cases ha; cases ha'; exact VLe.empty
  | 10 => cases ha; cases ha'; exact VLe.empty
  | 11 => cases ha; cases ha'; exact VLe.empty
  | 12 => cases ha; cases ha'; exact VLe.empty
  | 13 => cases ha; cases ha'; exact VLe.empty
  | _ + 14 => cases ha
theorem vle_fun0 : VLe (.agg [.ro 0 [] .nil, .ro 0 [] .nil, .ro 1 [[.int .i64 0]] .any, .bool false, .int .i64 0, .int .i64 0, .bool false, .int .i64 0, .int .i64 0, .ro 0 [] .nil, .ro 0 [] .nil, .ro 0 [] .nil, .ro 0 [] .nil, .ro 0 [] .nil]) (.agg (encMd fun0)) := by
  refine VLe.agg rfl fun j a a' ha ha' => ?_
  match j with
  | 0 => cases ha; cases ha'; exact VLe.empty
  | 1 => cases ha; cases ha'; exact VLe.empty
  | 2 => cases ha; cases ha'; exact VLe.refl _
  | 3 => cases ha; cases ha'; exact VLe.refl _
  | 4 => cases ha; cases ha'; exact VLe.refl _
  | 5 => cases ha; cases ha'; exact VLe.refl _
  | 6 => cases ha; cases ha'; exact VLe.refl _
  | 7 => cases ha; cases ha'; exact VLe.refl _
  | 8 => cases ha; cases ha'; exact VLe.refl _
  | 9 => cases ha; cases ha'; exact VLe.empty
  | 10 => cases ha; cases ha'; exact VLe.empty
  | 11 => cases ha; cases ha'; exact VLe.empty
  | 12 => cases ha; cases ha'; exact VLe.empty
  | 13 => cases ha; cases ha'; exact VLe.empty
  | _ + 14 => cases ha
def smallIs : List Ins := [⟨32, 0, 0, []⟩, ⟨32, 1, 0, []⟩, ⟨106, 0, 0, []⟩]
theorem law_small : SCall Tryz.prog 22 [] [] (fun y σ => y = .agg (encMd smallM) ∧ σ = []) := by
  refine scall_of (n := 15) (ks := [0]) Tryz.func22 rfl rfl (Nat.le_of_ble_eq_true rfl) ?_
  refine sq3 ?_
  apply al; rfl; (exact zcT); refine freshT fun r0 h0 => ?_; repeat rcases h0 with ⟨_, h0⟩
  refine sq75 ?_
  refine z1 ?_; refine freshT fun r1 h1 => ?_; repeat rcases h1 with ⟨_, h1⟩
  refine fzv (j := 1) rfl sdelT (bor_own sgT (by simp)) ?_
  refine z1 ?_; refine freshT fun r2 h2 => ?_; repeat rcases h2 with ⟨_, h2⟩
  refine fzv (j := 2) rfl sdelT (bor_own sgT (by simp)) ?_
  refine z93 ?_
  refine z1 ?_; refine freshT fun r4 h4 => ?_; repeat rcases h4 with ⟨_, h4⟩
  refine fzv (j := 4) rfl sdelT (bor_own sgT (by simp)) ?_
  refine z1 ?_; refine freshT fun r5 h5 => ?_; repeat rcases h5 with ⟨_, h5⟩
  refine fzv (j := 5) rfl sdelT (bor_own sgT (by simp)) ?_
  refine z93 ?_
  refine z1 ?_; refine freshT fun r7 h7 => ?_; repeat rcases h7 with ⟨_, h7⟩
  refine fzv (j := 7) rfl sdelT (bor_own sgT (by simp)) ?_
  refine z93 ?_
  refine z93 ?_
  refine z93 ?_
  refine z1 ?_; refine freshT fun r11 h11 => ?_; repeat rcases h11 with ⟨_, h11⟩
  refine fzv (j := 11) rfl sdelT (bor_own sgT (by simp)) ?_
  refine rs_go (sgo_vle (j := 11) rfl (vle_nl (l := smallIs) (by simp [smallIs]))) ?_
  refine z93 ?_
  refine rs_go (sgo_vle (j := 12) rfl vle_nco) ?_
  refine z1 ?_; refine freshT fun r13 h13 => ?_; repeat rcases h13 with ⟨_, h13⟩
  refine fzv (j := 13) rfl sdelT (bor_own sgT (by simp)) ?_
  refine z93 ?_
  apply stp; rfl; rfl; rfl; rfl; (exact sputT)
  refine leT ?_
  refine an ?_
  refine sw_go (sgo_leb (r := r0) (cs' := encMd smallM) ssetT (.cons (.refl _) (.cons (.le VLe.empty) (.cons (.refl _) (.cons (.refl _) (.cons (.refl _) (.cons (.refl _) (.cons (.refl _) (.cons (.refl _) (.cons (.refl _) (.cons (.le VLe.empty) (.cons (.refl _) (.cons (.le VLe.empty) (.cons (.refl _) (.cons (.le VLe.empty) .nil))))))))))))))) ?_
  refine ctlT ?_
  apply aend; exact resT
  · exact ⟨rfl, rfl⟩
  · exact stleT
/-
  What all statements of modules begin with.
-/
theorem small_len : (encB smallM).length ≤ 8000 ∧ 8 < (encB smallM).length := by rw [enc_small]; exact small_w
theorem law_begun7 : SCall Tryz.prog 43 [] [] (fun y σ => y = .bool true ∧ σ = []) := by
  have w1 := wasm_decode (encB smallM) (by have := small_len.1; omega) small_lt
  rw [dec_small] at w1
  have w2 := wasm_decode [120] (by decide) (by decide)
  rw [dec_x] at w2
  have w3 := wasm_may smallM small_wo
  rw [small_may] at w3
  have w4 := wasm_eq smallM smallM small_wo.w small_wo.w
  rw [eqM_self] at w4
  have w5 := wasm_eq smallM md0 small_wo.w wo0.w
  rw [small_ne] at w5
  have w6 := wasm_encode md0 wo0
  have w7 := wasm_may fun0 fun0_wo
  rw [fun0_may] at w7
  have h8 := small_len.2
  refine scall_of (n := 59) (ks := [0, 1, 2, 3, 4, 6]) Tryz.func43 rfl rfl (Nat.le_of_ble_eq_true rfl) ?_
  refine sq65 ?_
  refine cw [] Tryz.call22 law_small rfl argsleT stleT ?_
  rintro _ σ' ⟨rfl, rfl⟩ h7
  apply rs_sto; exact nflT
  apply al; rfl; (exact zcT); refine freshT fun r1 h1 => ?_; repeat rcases h1 with ⟨_, h1⟩
  apply stp; rfl; rfl; rfl; rfl; (exact sputT)
  refine sq75 ?_
  refine z99 ?_
  refine clA Tryz.call72 (wasm_encode smallM small_wo) rfl bargsT noT ?_
  rintro _ σ' ⟨q9, rfl, rfl⟩ h9
  replace h9 := lnewT h9; repeat rcases h9 with ⟨_, h9⟩
  apply rs_sto; exact nflT
  refine fzv (j := 9) rfl sdelT (bor_own sgT (by simp)) ?_
  refine sq37 ?_
  refine cw [] Tryz.call73 w1 rfl argsleT stleT ?_
  rintro _ σ' ⟨rfl, rfl⟩ h12
  apply rs_sto; exact nflT
  refine sq36 ?_
  apply al; rfl; (exact zcT); refine freshT fun r3 h3 => ?_; repeat rcases h3 with ⟨_, h3⟩
  apply stp; rfl; rfl; rfl; rfl; (exact sputT)
  refine sq25 ?_
  refine z1 ?_; refine freshT fun r16 h16 => ?_; repeat rcases h16 with ⟨_, h16⟩
  refine cvm (len := 1) ssetT (by decide) ?_
  refine fzv (j := 17) rfl sdelT (bor_own sgT (by simp)) ?_
  refine cw [] Tryz.call73 w2 rfl argsleT stleT ?_
  rintro _ σ' ⟨rfl, rfl⟩ h18
  apply rs_sto; exact nflT
  refine sq36 ?_
  apply al; rfl; (exact zcT); refine freshT fun r5 h5 => ?_; repeat rcases h5 with ⟨_, h5⟩
  apply stp; rfl; rfl; rfl; rfl; (exact sputT)
  refine sq25 ?_
  refine z99 ?_
  refine puA Tryz.call74 w3 rfl pargsT nofT ?_
  refine sq10 ?_
  refine z124 ?_
  refine z125 ?_
  rw [show decide ((8 : Int) < ((encB smallM).length : Int)) = true from decide_eq_true (by omega)]
  refine z68 ?_
  refine sq10 ?_
  refine z112 ?_
  rw [show ((0 : Int) == 0) = true from rfl]
  refine z68 ?_
  refine sq69 ?_
  refine z139 ?_
  refine gy rfl rfl ?_
  refine puA Tryz.call75 w4 rfl pargsT nofT ?_
  refine z68 ?_
  refine sq69 ?_
  refine z178 ?_
  refine rs_go (sgo_vle (j := 39) rfl vle_md0) ?_
  refine gy rfl rfl ?_
  refine puA Tryz.call75 w5 rfl pargsT nofT ?_
  refine z130 ?_
  rw [show (!false) = true from rfl]
  refine z68 ?_
  refine sq10 ?_
  refine z112 ?_
  rw [show ((1 : Int) == 1) = true from rfl]
  refine z68 ?_
  refine lo (lop_move (E rfl)) rfl ?_
  refine z178 ?_
  refine rs_go (sgo_vle (j := 48) rfl vle_md0) ?_
  refine gy rfl rfl ?_
  refine clA Tryz.call72 w6 rfl bargsT noT ?_
  rintro _ σ' ⟨q49, rfl, rfl⟩ h49
  replace h49 := lnewT h49; repeat rcases h49 with ⟨_, h49⟩
  apply rs_sto; exact nflT
  refine z124 ?_
  refine z112 ?_
  rw [enc_md0, show (((8 : Nat) : Int) == 8) = true from rfl]
  refine z68 ?_
  refine lo (lop_move (E rfl)) rfl ?_
  refine z179 ?_; refine freshT fun r54 h54 => ?_; repeat rcases h54 with ⟨_, h54⟩
  refine fzv (j := 54) rfl sdelT (bor_own sgT (by simp)) ?_
  refine z178 ?_
  refine rs_go (sgo_vle (j := 55) rfl vle_fun0) ?_
  refine gy rfl rfl ?_
  refine puA Tryz.call74 w7 rfl pargsT nofT ?_
  refine sq54 ?_
  apply aend; exact resT
  · exact ⟨rfl, rfl⟩
  · exact stleT
/-
  A module that has all.
-/
/-- the lowest bit; the two lowest -/
def b1 (w : Int) : Int := IntKind.wrap .i64 ((BitVec.ofInt (IntKind.bits .i64) w &&& BitVec.ofInt (IntKind.bits .i64) 1).toNat : Int)
def b3 (w : Int) : Int := IntKind.wrap .i64 ((BitVec.ofInt (IntKind.bits .i64) w &&& BitVec.ofInt (IntKind.bits .i64) 3).toNat : Int)
theorem b1_two (w : Int) : b1 w = 0 ∨ b1 w = 1 := by
  have h : (BitVec.ofInt (IntKind.bits .i64) w &&& BitVec.ofInt (IntKind.bits .i64) 1).toNat ≤ 1 := by
    rw [BitVec.toNat_and]
    exact Nat.and_le_right
  unfold b1
  rw [wrap_i64_of (by omega) (by omega)]
  omega
def parL (ps : List Int) : List Int := (ps.take 5).map fun p => 1 + b1 p
def resL (r : Int) : List Int := if (if decide (0 < b3 r) = true then decide (b3 r < 3) else false) = true then [b3 r] else []
def one32 : List Ins := [⟨32, 0, 0, []⟩]
/-- a module that has all: the first code's type; the codes -/
def fullM (pr rs : List Int) (co : List Co) : Md := ⟨[⟨pr, rs⟩, ⟨[], []⟩, ⟨[1], [1]⟩, ⟨[2, 1], [2]⟩], [⟨[119], [102], 2⟩, ⟨[119], [103], 1⟩], [0, 3], ⟨true, 4, -1⟩, ⟨true, 1, 3⟩, [⟨true, 1, 0⟩, ⟨false, 2, 5⟩], [⟨[109, 97, 105, 110], 2⟩], [⟨0, [0, 2, 3]⟩], co, []⟩
/-- its cells, the codes in a row of its own -/
def encF (pr rs : List Int) (q : Nat) : List AV := [.ro 2 ((fullM pr rs []).ty.map encFT) .any, .ro 3 ((fullM pr rs []).im.map encIm) .any, .ro 1 ([0, 3].map encI) .any, .bool true, .int .i64 4, .int .i64 (-1), .bool true, .int .i64 1, .int .i64 3,
  .ro 3 ((fullM pr rs []).gl.map encGl) .any, .ro 2 ((fullM pr rs []).ex.map encEx) .any, .ro 2 ((fullM pr rs []).el.map encEl) .any, .own q 0 2, .ro 2 ([].map encDa) .any]
theorem vle_ft0 : VLe (.agg [.ro 0 [] .nil, .ro 0 [] .nil]) (.agg (encFT ⟨[], []⟩)) := by
  refine VLe.agg rfl fun j a a' ha ha' => ?_
  match j with
  | 0 => cases ha; cases ha'; exact VLe.empty
  | 1 => cases ha; cases ha'; exact VLe.empty
  | _ + 2 => cases ha
theorem par_next {ps : List Int} {j : Nat} {w : Int} (h : ps[j]? = some w) : (ps.take j).map (fun p => 1 + b1 p) ++ [1 + b1 w] = (ps.take (j + 1)).map (fun p => 1 + b1 p) := by
  rw [List.take_add_one, h]; simp
theorem law_full (ps : List Int) (r : Int) : SCall Tryz.prog 19 [.ro 1 (ps.map encI) .any, .int .i64 r] [] (fun y σ => ∃ q, y = .agg (encF (parL ps) (resL r) q) ∧ σ = [(q, .arr 41 2 [[.ro 0 [] .nil, .ro 0 [] .nil], encCo ⟨[], one32⟩])]) := by
  refine scall_of (n := 72) (ks := [0, 1, 4, 5, 6, 15, 36]) Tryz.func19 rfl rfl (Nat.le_of_ble_eq_true rfl) ?_
  refine sq3 ?_
  apply al; rfl; (exact zcT); refine freshT fun r4 h4 => ?_; repeat rcases h4 with ⟨_, h4⟩
  refine sq75 ?_
  refine z93 ?_
  apply al; rfl; (exact zcT); refine freshT fun r5 h5 => ?_; repeat rcases h5 with ⟨_, h5⟩
  apply stp; rfl; rfl; rfl; rfl; (exact sputT)
  refine sq4 ?_
  refine sw_virt_box (ks := [0, 1, 4, 5, 6, 15, 36]) r5 0 3 1 (by decide) sgT rfl (by decide) fun p0 hp0 => ?_
  simp only [fresh_cons, fresh_nil, and_true] at hp0; repeat rcases hp0 with ⟨_, hp0⟩
  apply Exists.intro; apply And.intro; (exact ssetT)
  refine rgT ?_
  refine sq2 ?_
  refine lp (β := Nat × Nat) (fun b => ⟨[(0, .ro 1 (ps.map encI) .any), (1, .int .i64 r), (4, .ptr r4 0), (5, .ptr r5 0), (6, .int .i64 b.1)], [(r5, .box 57 [.own b.2 0 ((ps.take b.1).map fun p => 1 + b1 p).length, .ro 0 [] .nil]), (b.2, .arr 3 1 (((ps.take b.1).map fun p => 1 + b1 p).map encI)), (r4, .box 33 [.ro 0 [] .nil, .ro 0 [] .nil, .ro 0 [] .nil, .bool false, .int .i64 0, .int .i64 0, .bool false, .int .i64 0, .int .i64 0, .ro 0 [] .nil, .ro 0 [] .nil, .ro 0 [] .nil, .ro 0 [] .nil, .ro 0 [] .nil])]⟩) (fun b => b.1 ≤ ps.length ∧ b.1 ≤ 5 ∧ Nq b.2 r5 ∧ Nq b.2 r4) (fun b => 5 - b.1) (0, p0) sgoT ⟨Nat.zero_le _, Nat.zero_le _, by show Nq p0 r5; (exact nqT), by show Nq p0 r4; (exact nqT)⟩ ?_
  rintro ⟨j, p⟩ ⟨hj, hj5, n1, n2⟩
  dsimp only at hj hj5 n1 n2 ⊢
  have hpl : ((ps.take j).map fun p => 1 + b1 p).length = j := by simp; omega
  refine sq18 ?_
  refine z14 ?_
  refine sq87 ?_
  refine z162 ?_
  refine sq91 ?_
  refine sw_cond rfl (fun g3 => ?_) (fun g3 => ?_)
  · have hlt : j < ps.length ∧ j < 5 := ite_lt g3
    obtain ⟨w, hw⟩ : ∃ w, ps[j]? = some w := ⟨_, List.getElem?_eq_getElem hlt.1⟩
    have hb := b1_two w
    unfold b1 at hb
    refine ctlT ?_
    refine rgD [(0, true), (1, true), (2, true), (3, true), (4, true), (5, true), (6, true), (7, true), (8, false), (9, false), (10, true), (11, false)] ?_
    refine sq22 ?_
    refine sq81 ?_
    refine z57 ?_
    refine dlo rfl (lop_and (E rfl) (E rfl)) rfl ?_
    refine z144 ?_
    refine z97 ?_; refine freshT fun r26 h26 => ?_; repeat rcases h26 with ⟨_, h26⟩
    refine dapA rfl (((ps.take j).map (fun p => 1 + b1 p) ++ [1 + b1 w]).map encI) ((ps.take j).map (fun p => 1 + b1 p) ++ [1 + b1 w]).length ?_
    refine apnT fun r27 h27 => ?_; repeat rcases h27 with ⟨_, h27⟩
    refine z73 ?_
    refine z95 ?_
    refine deT ?_
    refine sq7 ?_
    refine z17 ?_
    refine sq2 ?_
    refine ⟨(j + 1, r27), ⟨hlt.1, hlt.2, by show Nq r27 r5; (exact nqT), by show Nq r27 r4; (exact nqT)⟩, by show 5 - (j + 1) < 5 - j; omega, ?_⟩
    dsimp only
    rw [← par_next hw]
    exact sgoT
  rw [show (ps.take j).map (fun p => 1 + b1 p) = parL ps by
      unfold parL
      rcases Nat.lt_or_ge j 5 with h5j | h5j
      · have : j = ps.length := by
          rcases Nat.lt_or_ge j ps.length with h | h
          · rw [decide_eq_true (by omega), if_pos rfl, decide_eq_true (by omega)] at g3; cases g3
          · omega
        subst this
        rw [List.take_length, List.take_of_length_le (by omega)]
      · obtain rfl : j = 5 := by omega
        rfl]
  refine sw_go (sgo_fzb (r := r5) (q := p) ssetT sdelT (.cons (bor_own sgT (by simp)) (.cons (.refl _) .nil))) ?_
  refine sq7 ?_
  refine lo (lop_and (E rfl) (E rfl)) rfl ?_
  refine sq47 ?_
  first | refine ln rfl rfl rfl rfl ?_ | (refine gy rfl rfl ?_; refine lo (lop_and (by first | exact W rfl id | exact E rfl) (E rfl)) rfl ?_) | refine lg rfl rfl (lop_and (by first | exact W rfl id | exact E rfl) (E rfl)) rfl ?_
  refine z162 ?_
  refine sq91 ?_
  refine sja (β := Unit) (fun _ => ⟨[(4, .ptr r4 0), (5, .ptr r5 0)], [(r5, .box 57 [.ro 1 ((parL ps).map encI) .any, .ro 1 ((resL r).map encI) .any]), (r4, .box 33 [.ro 0 [] .nil, .ro 0 [] .nil, .ro 0 [] .nil, .bool false, .int .i64 0, .int .i64 0, .bool false, .int .i64 0, .int .i64 0, .ro 0 [] .nil, .ro 0 [] .nil, .ro 0 [] .nil, .ro 0 [] .nil, .ro 0 [] .nil])]⟩) (fun _ => True) ?_ ?_
  · refine sw_cond rfl (fun g6 => ?_) (fun g6 => ?_)
    · rw [show resL r = [b3 r] from if_pos g6]
      refine sq7 ?_
      refine lo (lop_and (E rfl) (E rfl)) rfl ?_
      refine z1 ?_; refine freshT fun r39 h39 => ?_; repeat rcases h39 with ⟨_, h39⟩
      refine z59 ?_
      refine fzv (j := 39) rfl sdelT (bor_own sgT (by simp)) ?_
      apply stp; rfl; rfl; rfl; rfl; (exact sputT)
      refine sq4 ?_
      exact ⟨(), trivial, sgoT⟩
    rw [show resL r = [] by unfold resL; exact if_neg (fun e => by rw [show (if decide (0 < b3 r) = true then decide (b3 r < 3) else false) = false from g6] at e; cases e)]
    refine sw_go (sgo_leb (r := r5) (cs' := [.ro 1 ((parL ps).map encI) .any, .ro 1 (([] : List Int).map encI) .any]) ssetT (.cons (.refl _) (.cons (.le VLe.empty) .nil))) ?_
    refine ctlT ?_
    exact ⟨(), trivial, sgoT⟩
  rintro ⟨⟩ -
  refine sq3 ?_
  refine z99 ?_
  refine z93 ?_
  refine rs_go (sgo_vle (j := 42) rfl vle_ft0) ?_
  refine z1 ?_; refine freshT fun r43 h43 => ?_; repeat rcases h43 with ⟨_, h43⟩
  refine z1 ?_; refine freshT fun r44 h44 => ?_; repeat rcases h44 with ⟨_, h44⟩
  refine fzv (j := 43) rfl sdelT (bor_own sgT (by simp)) ?_
  refine fzv (j := 44) rfl sdelT (bor_own sgT (by simp)) ?_
  refine z93 ?_
  refine z1 ?_; refine freshT fun r46 h46 => ?_; repeat rcases h46 with ⟨_, h46⟩
  refine z1 ?_; refine freshT fun r47 h47 => ?_; repeat rcases h47 with ⟨_, h47⟩
  refine fzv (j := 46) rfl sdelT (bor_own sgT (by simp)) ?_
  refine fzv (j := 47) rfl sdelT (bor_own sgT (by simp)) ?_
  refine z93 ?_
  refine z1 ?_; refine freshT fun r49 h49 => ?_; repeat rcases h49 with ⟨_, h49⟩
  refine fzv (j := 49) rfl sdelT (bor_own sgT (by simp)) ?_
  refine z93 ?_
  refine z93 ?_
  refine z1 ?_; refine freshT fun r52 h52 => ?_; repeat rcases h52 with ⟨_, h52⟩
  refine fzv (j := 52) rfl sdelT (bor_own sgT (by simp)) ?_
  refine z1 ?_; refine freshT fun r53 h53 => ?_; repeat rcases h53 with ⟨_, h53⟩
  refine fzv (j := 53) rfl sdelT (bor_own sgT (by simp)) ?_
  refine z93 ?_
  refine z93 ?_
  refine z93 ?_
  refine z93 ?_
  refine z93 ?_
  refine z93 ?_
  refine z1 ?_; refine freshT fun r60 h60 => ?_; repeat rcases h60 with ⟨_, h60⟩
  refine fzv (j := 60) rfl sdelT (bor_own sgT (by simp)) ?_
  refine z93 ?_
  refine z1 ?_; refine freshT fun r62 h62 => ?_; repeat rcases h62 with ⟨_, h62⟩
  refine fzv (j := 62) rfl sdelT (bor_own sgT (by simp)) ?_
  refine z1 ?_; refine freshT fun r63 h63 => ?_; repeat rcases h63 with ⟨_, h63⟩
  refine fzv (j := 63) rfl sdelT (bor_own sgT (by simp)) ?_
  refine z93 ?_
  refine z1 ?_; refine freshT fun r65 h65 => ?_; repeat rcases h65 with ⟨_, h65⟩
  refine fzv (j := 65) rfl sdelT (bor_own sgT (by simp)) ?_
  refine z93 ?_
  refine z93 ?_
  refine z1 ?_; refine freshT fun r68 h68 => ?_; repeat rcases h68 with ⟨_, h68⟩
  refine fzv (j := 68) rfl sdelT (bor_own sgT (by simp)) ?_
  refine rs_go (sgo_vle (j := 68) rfl (vle_nl (l := one32) (by simp [one32]))) ?_
  refine z93 ?_
  refine rs_go (sgo_vle (j := 69) rfl vle_nco) ?_
  refine z1 ?_; refine freshT fun r70 h70 => ?_; repeat rcases h70 with ⟨_, h70⟩
  refine z93 ?_
  apply stp; rfl; rfl; rfl; rfl; (exact sputT)
  refine leT ?_
  refine an ?_
  refine sw_go (sgo_leb (r := r4) (cs' := encF (parL ps) (resL r) r70) ssetT (.cons (.refl _) (.cons (.refl _) (.cons (.refl _) (.cons (.refl _) (.cons (.refl _) (.cons (.refl _) (.cons (.refl _) (.cons (.refl _) (.cons (.refl _) (.cons (.refl _) (.cons (.refl _) (.cons (.refl _) (.cons (.refl _) (.cons (.le VLe.empty) .nil))))))))))))))) ?_
  refine ctlT ?_
  apply aend; exact resT
  · exact ⟨r70, rfl, rfl⟩
  · exact stleT
/-
  What all statements of bodies begin with; does a body fit?
-/
def encSm (q : Nat) : List AV := [.ro 2 (smallM.ty.map encFT) .any, .ro 3 [] .any, .ro 1 (smallM.fn.map encI) .any, .bool false, .int .i64 0, .int .i64 0, .bool false, .int .i64 0, .int .i64 0, .ro 3 [] .any, .ro 2 (smallM.ex.map encEx) .any, .ro 2 [] .any, .own q 0 1, .ro 2 [] .any]
theorem law_smallQ : SCall Tryz.prog 22 [] [] (fun y σ => ∃ q, y = .agg (encSm q) ∧ σ = [(q, .arr 41 2 [[.ro 0 [] .nil, .ro 4 (smallIs.map (iv .any)) .any]])]) := by
  refine scall_of (n := 15) (ks := [0]) Tryz.func22 rfl rfl (Nat.le_of_ble_eq_true rfl) ?_
  refine sq3 ?_
  apply al; rfl; (exact zcT); refine freshT fun r0 h0 => ?_; repeat rcases h0 with ⟨_, h0⟩
  refine sq75 ?_
  refine z1 ?_; refine freshT fun r1 h1 => ?_; repeat rcases h1 with ⟨_, h1⟩
  refine fzv (j := 1) rfl sdelT (bor_own sgT (by simp)) ?_
  refine z1 ?_; refine freshT fun r2 h2 => ?_; repeat rcases h2 with ⟨_, h2⟩
  refine fzv (j := 2) rfl sdelT (bor_own sgT (by simp)) ?_
  refine z93 ?_
  refine z1 ?_; refine freshT fun r4 h4 => ?_; repeat rcases h4 with ⟨_, h4⟩
  refine fzv (j := 4) rfl sdelT (bor_own sgT (by simp)) ?_
  refine z1 ?_; refine freshT fun r5 h5 => ?_; repeat rcases h5 with ⟨_, h5⟩
  refine fzv (j := 5) rfl sdelT (bor_own sgT (by simp)) ?_
  refine z93 ?_
  refine z1 ?_; refine freshT fun r7 h7 => ?_; repeat rcases h7 with ⟨_, h7⟩
  refine fzv (j := 7) rfl sdelT (bor_own sgT (by simp)) ?_
  refine z93 ?_
  refine z93 ?_
  refine z93 ?_
  refine z1 ?_; refine freshT fun r11 h11 => ?_; repeat rcases h11 with ⟨_, h11⟩
  refine fzv (j := 11) rfl sdelT (bor_own sgT (by simp)) ?_
  refine rs_go (sgo_vle (j := 11) rfl (vle_nl (l := smallIs) (by simp [smallIs]))) ?_
  refine z93 ?_
  refine z1 ?_; refine freshT fun r13 h13 => ?_; repeat rcases h13 with ⟨_, h13⟩
  refine z93 ?_
  apply stp; rfl; rfl; rfl; rfl; (exact sputT)
  refine leT ?_
  refine an ?_
  refine sw_go (sgo_leb (r := r0) (cs' := encSm r13) ssetT (.cons (.refl _) (.cons (.le VLe.empty) (.cons (.refl _) (.cons (.refl _) (.cons (.refl _) (.cons (.refl _) (.cons (.refl _) (.cons (.refl _) (.cons (.refl _) (.cons (.le VLe.empty) (.cons (.refl _) (.cons (.le VLe.empty) (.cons (.refl _) (.cons (.le VLe.empty) .nil))))))))))))))) ?_
  refine ctlT ?_
  apply aend; exact resT
  · exact ⟨r13, rfl, rfl⟩
  · exact stleT
theorem vle_row {x x' y : AV} (h : VLe x x') (hx : x'.cell = true) (hy : y.cell = true) {es : List (List AV)} (hes : RowsOk 2 es) : VLe (.ro 2 ([x, y] :: es) .any) (.ro 2 ([x', y] :: es) .any) := by
  refine VLe.ro (by simp) ?_ ?_
  · intro e he
    rcases List.mem_cons.1 he with rfl | he
    · exact ⟨rfl, fun a ha => by
        simp only [List.mem_cons, List.not_mem_nil, or_false] at ha
        rcases ha with rfl | rfl <;> assumption⟩
    · exact hes e he
  · intro i e e' h1 h2
    cases i with
    | zero =>
      cases h1; cases h2
      refine ⟨rfl, fun j a a' ha ha' => ?_⟩
      match j with
      | 0 => cases ha; cases ha'; exact h
      | 1 => cases ha; cases ha'; exact VLe.refl _
      | _ + 2 => cases ha
    | succ i =>
      obtain rfl := Option.some.inj (h1.symm.trans h2)
      exact ⟨rfl, fun j a a' ha ha' => by obtain rfl := Option.some.inj (ha.symm.trans ha'); exact VLe.refl _⟩
theorem rows_nil2 : RowsOk 2 [] := fun x hx => by simp at hx
def smallN : Md := { smallM with co := [⟨[], [⟨32, 0, 0, []⟩, ⟨32, 1, 0, []⟩]⟩] }
def uIs : List Ins := [⟨0, 0, 0, []⟩, ⟨106, 0, 0, []⟩]
def smallU : Md := { smallM with co := [⟨[], uIs⟩] }
/-- an instruction out of a list of some -/
def insCk (x : Ins) : Bool := decide (0 ≤ x.a) && decide (x.a ≤ 9223372036854775807) && x.l.all (fun n => decide (0 ≤ n)) && decide (x.l.length ≤ 1000000)
theorem ck_of {x : Ins} (h : insCk x = true) : x.Ck := by
  unfold insCk at h
  simp only [Bool.and_eq_true, decide_eq_true_eq, List.all_eq_true] at h
  exact ⟨fun _ => h.1.1.1, fun _ => h.1.2, h.2, h.1.1.2⟩
def mdFn (m : Md) : Bool := m.ty.all (fun t => decide (t.pr.length ≤ 100) && decide (t.rs.length ≤ 100)) && decide (m.im.length ≤ 1000000) && m.co.all (fun c => decide (c.bd.length ≤ 100000) && c.bd.all insCk && decide (c.ls.length ≤ 1000))
theorem fn_of {m : Md} (h : mdFn m = true) : m.Fn := by
  unfold mdFn at h
  simp only [Bool.and_eq_true, decide_eq_true_eq, List.all_eq_true] at h
  obtain ⟨⟨h1, h2⟩, h3⟩ := h
  exact ⟨⟨fun t ht => h1 t ht, h2⟩, fun c hc => ⟨(h3 c hc).1.1, fun x hx => ck_of ((h3 c hc).1.2 x hx)⟩, fun c hc => (h3 c hc).2⟩
theorem chk_s0 : chkP smallM 0 = true := by decide +kernel
theorem chk_s1 : chkP smallM 1 = false := by decide +kernel
theorem chk_n0 : chkP smallN 0 = false := by decide +kernel
theorem chk_u0 : chkP smallU 0 = true := by decide +kernel
theorem law_Begun7 : SCall Tryz.prog 23 [] [] (fun y σ => y = .bool true ∧ σ = []) := by
  refine scall_of (n := 2) (ks := [0]) Tryz.func23 rfl rfl (Nat.le_of_ble_eq_true rfl) ?_
  refine sq65 ?_
  refine puA Tryz.call43 law_begun7 rfl pargsT nofT ?_
  refine sq2 ?_
  apply aend; exact resT
  · exact ⟨rfl, rfl⟩
  · exact stleT
theorem law_begun8 : SCall Tryz.prog 14 [] [] (fun y σ => y = .bool true ∧ σ = []) := by
  have hs3 : smallIs.length = 3 := rfl
  have w1 := check_func smallM (fn_of (by decide)) 0
  have w2 := check_func smallN (fn_of (by decide)) 0
  have w3 := check_func smallU (fn_of (by decide)) 0
  have w4 := check_func smallM (fn_of (by decide)) 1
  rw [chk_s0] at w1
  rw [chk_n0] at w2
  rw [chk_u0] at w3
  rw [chk_s1] at w4
  refine scall_of (n := 43) (ks := [0, 1, 2, 3]) Tryz.func14 rfl rfl (Nat.le_of_ble_eq_true rfl) ?_
  refine sq65 ?_
  refine cw [] Tryz.call22 law_small rfl argsleT stleT ?_
  rintro _ σ' ⟨rfl, rfl⟩ h4
  apply rs_sto; exact nflT
  apply al; rfl; (exact zcT); refine freshT fun r1 h1 => ?_; repeat rcases h1 with ⟨_, h1⟩
  apply stp; rfl; rfl; rfl; rfl; (exact sputT)
  refine sq75 ?_
  refine cw [] Tryz.call22 law_smallQ rfl argsleT stleT ?_
  rintro _ σ' ⟨q1, rfl, rfl⟩ h5
  replace h5 := cnewT h5; repeat rcases h5 with ⟨_, h5⟩
  unfold encSm
  apply rs_sto; exact nflT
  apply al; rfl; (exact zcT); refine freshT fun r2 h2 => ?_; repeat rcases h2 with ⟨_, h2⟩
  apply stp; rfl; rfl; rfl; rfl; (exact sputT)
  refine sq4 ?_
  refine rgD [(0, true), (1, true), (2, true), (3, true), (4, true), (5, true), (6, true), (7, true), (8, true), (9, true), (10, false)] ?_
  refine sq22 ?_
  refine sq22 ?_
  refine z56 ?_
  refine z161 ?_
  refine z57 ?_
  refine z25 ?_
  refine z56 ?_
  refine z161 ?_
  apply dsto; rfl; infer_instance; rfl; rfl; rfl; rfl; (exact ssetT); (exact atT); (exact putT_); rfl; (exact hbtT)
  refine sq68 ?_
  refine sw_go (sgo_fzb (r := r2) (q := q1) ssetT sdelT (.cons (.refl _) (.cons (.refl _) (.cons (.refl _) (.cons (.refl _) (.cons (.refl _) (.cons (.refl _) (.cons (.refl _) (.cons (.refl _) (.cons (.refl _) (.cons (.refl _) (.cons (.refl _) (.cons (.refl _) (.cons (bor_own sgT (by simp)) (.cons (.refl _) .nil))))))))))))))) ?_
  refine sw_go (sgo_leb (r := r2) (cs' := encMd smallN) ssetT (.cons (.refl _) (.cons (.refl _) (.cons (.refl _) (.cons (.refl _) (.cons (.refl _) (.cons (.refl _) (.cons (.refl _) (.cons (.refl _) (.cons (.refl _) (.cons (.refl _) (.cons (.refl _) (.cons (.refl _) (.cons (.le (vle_row VLe.empty rfl rfl rows_nil2)) (.cons (.refl _) .nil))))))))))))))) ?_
  refine rgT ?_
  refine cw [] Tryz.call22 law_smallQ rfl argsleT stleT ?_
  rintro _ σ' ⟨q2, rfl, rfl⟩ h16
  replace h16 := cnewT h16; repeat rcases h16 with ⟨_, h16⟩
  unfold encSm
  apply rs_sto; exact nflT
  apply al; rfl; (exact zcT); refine freshT fun r3 h3 => ?_; repeat rcases h3 with ⟨_, h3⟩
  apply stp; rfl; rfl; rfl; rfl; (exact sputT)
  refine leT ?_
  refine sq63 ?_
  refine z93 ?_
  refine z93 ?_
  refine z1 ?_; refine freshT fun r21 h21 => ?_; repeat rcases h21 with ⟨_, h21⟩
  refine z15 ?_
  refine z117 ?_
  refine fzv (j := 21) rfl sdelT (bor_own sgT (by simp)) ?_
  refine rs_go (sgo_vle (j := 21) rfl (vle_nl (l := uIs) (by simp [uIs]))) ?_
  refine z118 ?_
  refine sq4 ?_
  refine sw_go (sgo_fzb (r := r3) (q := q2) ssetT sdelT (.cons (.refl _) (.cons (.refl _) (.cons (.refl _) (.cons (.refl _) (.cons (.refl _) (.cons (.refl _) (.cons (.refl _) (.cons (.refl _) (.cons (.refl _) (.cons (.refl _) (.cons (.refl _) (.cons (.refl _) (.cons (bor_own sgT (by simp)) (.cons (.refl _) .nil))))))))))))))) ?_
  refine sw_go (sgo_leb (r := r3) (cs' := encMd smallU) ssetT (.cons (.refl _) (.cons (.refl _) (.cons (.refl _) (.cons (.refl _) (.cons (.refl _) (.cons (.refl _) (.cons (.refl _) (.cons (.refl _) (.cons (.refl _) (.cons (.refl _) (.cons (.refl _) (.cons (.refl _) (.cons (.le (vle_row VLe.empty rfl rfl rows_nil2)) (.cons (.refl _) .nil))))))))))))))) ?_
  refine rgT ?_
  refine puA Tryz.call23 law_Begun7 rfl pargsT nofT ?_
  refine sq69 ?_
  refine pugA rfl rfl Tryz.call17 (fun _ => w1) rfl pargsT nofT ?_
  refine z68 ?_
  refine sq69 ?_
  refine pugA rfl rfl Tryz.call17 (fun _ => w2) rfl pargsT nofT ?_
  refine z130 ?_
  refine z68 ?_
  refine sq69 ?_
  refine pugA rfl rfl Tryz.call17 (fun _ => w3) rfl pargsT nofT ?_
  refine z68 ?_
  refine sq69 ?_
  refine pugA rfl rfl Tryz.call17 (fun _ => w4) rfl pargsT nofT ?_
  refine sq54 ?_
  apply aend; exact resT
  · exact ⟨rfl, rfl⟩
  · exact stleT
def oneC : Co := ⟨[], one32⟩
theorem law_fits (r : Int) (l : List Ins) (hl : l.length ≤ 100000) (hk : ∀ x ∈ l, x.Ck) : SCall Tryz.prog 21 [.int .i64 r, .ro 4 (l.map (iv .any)) .any] [] (fun y σ => y = .bool (chkP (fullM [] (resL r) [⟨[], l⟩, oneC]) 0) ∧ σ = []) := by
  have hrl : (resL r).length ≤ 1 := by unfold resL; exact ite_p (p := fun l : List Int => l.length ≤ 1) (fun _ => by simp) (fun _ => by simp)
  have hF : (fullM [] (resL r) [⟨[], l⟩, oneC]).Fn := by
    refine ⟨⟨?_, by simp [fullM]⟩, ?_, ?_⟩
    · intro t ht
      simp only [fullM, List.mem_cons, List.not_mem_nil, or_false] at ht
      rcases ht with rfl | rfl | rfl | rfl <;> (constructor <;> simp; try omega)
    · intro c hc
      simp only [fullM, List.mem_cons, List.not_mem_nil, or_false] at hc
      rcases hc with rfl | rfl
      · exact ⟨hl, hk⟩
      · exact ⟨by simp [oneC, one32], fun x hx => ck_of (by simp [oneC, one32] at hx; subst hx; decide)⟩
    · intro c hc
      simp only [fullM, List.mem_cons, List.not_mem_nil, or_false] at hc
      rcases hc with rfl | rfl <;> simp [oneC]
  have w := check_func _ hF 0
  refine scall_of (n := 16) (ks := [0, 1, 4, 5]) Tryz.func21 rfl rfl (Nat.le_of_ble_eq_true rfl) ?_
  refine sq62 ?_
  refine cw [] Tryz.call19 (law_full [] r) rfl argsleT stleT ?_
  rintro _ σ' ⟨q, rfl, rfl⟩ h7
  unfold encF
  apply rs_sto; exact nflT
  apply al; rfl; (exact zcT); refine freshT fun r5 h5 => ?_; repeat rcases h5 with ⟨_, h5⟩
  apply stp; rfl; rfl; rfl; rfl; (exact sputT)
  refine sq4 ?_
  refine rgD [(0, true), (1, true), (2, true), (3, false), (4, true), (5, true), (6, false)] ?_
  refine sq22 ?_
  refine dlo rfl (lop_move (E rfl)) rfl ?_
  refine danA rfl (l.map (iv .any)) l.length ?_ (hby := by omega)
  refine freshT fun r11 h11 => ?_; repeat rcases h11 with ⟨_, h11⟩
  refine dfzv (j := 11) rfl sdelT (bor_own sgT (by simp)) ?_
  refine z56 ?_
  refine z161 ?_
  apply dsto; rfl; infer_instance; rfl; rfl; rfl; rfl; (exact ssetT); (exact atT); (exact putT_); rfl; (exact hbtT)
  refine sq68 ?_
  refine sw_go (sgo_fzb (r := r5) (q := q) ssetT sdelT (.cons (.refl _) (.cons (.refl _) (.cons (.refl _) (.cons (.refl _) (.cons (.refl _) (.cons (.refl _) (.cons (.refl _) (.cons (.refl _) (.cons (.refl _) (.cons (.refl _) (.cons (.refl _) (.cons (.refl _) (.cons (bor_own sgT (by simp)) (.cons (.refl _) .nil))))))))))))))) ?_
  refine sw_go (sgo_leb (r := r5) (cs' := encMd (fullM [] (resL r) [⟨[], l⟩, oneC])) ssetT (.cons (.refl _) (.cons (.refl _) (.cons (.refl _) (.cons (.refl _) (.cons (.refl _) (.cons (.refl _) (.cons (.refl _) (.cons (.refl _) (.cons (.refl _) (.cons (.refl _) (.cons (.refl _) (.cons (.refl _) (.cons (.le (vle_row VLe.empty rfl rfl (fun x hx => by obtain rfl := List.mem_singleton.1 hx; exact ⟨rfl, by simp [encCo, AV.cell]⟩))) (.cons (.refl _) .nil))))))))))))))) ?_
  refine rgT ?_
  refine z99 ?_
  refine puA Tryz.call17 w rfl pargsT nofT ?_
  refine sq2 ?_
  apply aend; exact resT
  · exact ⟨rfl, rfl⟩
  · exact stleT
/-
  Select takes two of one kind, and an I32 on top.
-/
def selL (A B C : Int) : List Ins := [⟨64 + (1 + A), 0, 0, []⟩, ⟨64 + (1 + B), 0, 0, []⟩, ⟨64 + (1 + C), 0, 0, []⟩, ⟨27, 0, 0, []⟩]
theorem sel_ck (A B C : Int) : ∀ x ∈ selL A B C, x.Ck := fun x hx => by
  simp only [selL, List.mem_cons, List.not_mem_nil, or_false] at hx
  rcases hx with rfl | rfl | rfl | rfl <;> exact ck_of rfl
theorem sel_ok {A B C D : Int} (hA : A = 0 ∨ A = 1) (hB : B = 0 ∨ B = 1) (hC : C = 0 ∨ C = 1) (hD : D = 0 ∨ D = 1) :
    (chkP (fullM [] (resL (1 + D)) [⟨[], selL A B C⟩, oneC]) 0 == (if (if (1 + A == 1 + B) = true then (1 + C == 1) else false) = true then (1 + A == 1 + D) else false)) = true := by
  rcases hA with rfl | rfl <;> rcases hB with rfl | rfl <;> rcases hC with rfl | rfl <;> rcases hD with rfl | rfl <;> decide +kernel
theorem law_checkSelect2 (a b c r : Int) : SCall Tryz.prog 6 [.int .i64 a, .int .i64 b, .int .i64 c, .int .i64 r] [] (fun y σ => y = .bool true ∧ σ = []) := by
  have hA := b1_two a
  have hB := b1_two b
  have hC := b1_two c
  have hD := b1_two r
  unfold b1 at hA hB hC hD
  refine scall_of (n := 51) (ks := [0, 1, 2, 3, 8, 9, 12]) Tryz.func6 rfl rfl (Nat.le_of_ble_eq_true rfl) ?_
  refine sq65 ?_
  refine puA Tryz.call14 law_begun8 rfl pargsT nofT ?_
  refine sq99 ?_
  refine sq27 ?_
  refine sq71 ?_
  refine lo (lop_move (E rfl)) rfl ?_
  refine sq71 ?_
  refine lo (lop_move (E rfl)) rfl ?_
  refine sq71 ?_
  refine lo (lop_move (E rfl)) rfl ?_
  refine sq71 ?_
  refine lo (lop_assign (E rfl)) rfl ?_
  refine sq23 ?_
  generalize IntKind.wrap .i64 ((BitVec.ofInt (IntKind.bits .i64) a &&& BitVec.ofInt (IntKind.bits .i64) 1).toNat : Int) = A at hA ⊢
  generalize IntKind.wrap .i64 ((BitVec.ofInt (IntKind.bits .i64) b &&& BitVec.ofInt (IntKind.bits .i64) 1).toNat : Int) = B at hB ⊢
  generalize IntKind.wrap .i64 ((BitVec.ofInt (IntKind.bits .i64) c &&& BitVec.ofInt (IntKind.bits .i64) 1).toNat : Int) = C at hC ⊢
  generalize IntKind.wrap .i64 ((BitVec.ofInt (IntKind.bits .i64) r &&& BitVec.ofInt (IntKind.bits .i64) 1).toNat : Int) = D at hD ⊢
  refine sq5 ?_
  refine z17 ?_
  refine sq98 ?_
  refine z17 ?_
  refine sq98 ?_
  refine z17 ?_
  refine z93 ?_
  refine z93 ?_
  refine z1 ?_; refine freshT fun r36 h36 => ?_; repeat rcases h36 with ⟨_, h36⟩
  refine fzv (j := 36) rfl sdelT (bor_own sgT (by simp)) ?_
  refine rs_go (sgo_vle (j := 36) rfl (vle_nl (l := selL A B C) (by simp [selL]))) ?_
  refine puA Tryz.call21 (law_fits (1 + D) (selL A B C) (by simp [selL]) (sel_ck A B C)) rfl pargsT nofT ?_
  refine sq51 ?_
  refine sq85 ?_
  refine z112 ?_
  refine z68 ?_
  refine sq10 ?_
  refine z109 ?_
  refine z128 ?_
  refine z68 ?_
  refine sq55 ?_
  apply aend; exact resT
  · exact ⟨congrArg AV.bool (sel_ok hA hB hC hD), rfl⟩
  · exact stleT
theorem law_checkSelect3 (a b c r : Int) : SCall Tryz.prog 6 [.int .i64 a, .int .i64 b, .int .i64 c, .int .i64 r] [] (fun y _ => y = .bool true) := (law_checkSelect2 a b c r).mono fun _ _ h => h.1
/-
  A call takes its parameters in order, and gives its result.
-/
def calL (A B : Int) (t : Bool) : List Ins := [⟨64 + (1 + A), 0, 0, []⟩, ⟨64 + (1 + B), 0, 0, []⟩] ++ if t = true then [⟨65, 0, 0, []⟩, ⟨17, 3, 0, []⟩] else [⟨16, 3, 0, []⟩]
theorem cal_ck (A B : Int) (t : Bool) : ∀ x ∈ calL A B t, x.Ck := fun x hx => by
  cases t
  · simp only [calL, Bool.false_eq_true, if_false, List.cons_append, List.nil_append, List.mem_cons, List.not_mem_nil, or_false] at hx
    rcases hx with rfl | rfl | rfl <;> exact ck_of rfl
  · simp only [calL, if_true, List.cons_append, List.nil_append, List.mem_cons, List.not_mem_nil, or_false] at hx
    rcases hx with rfl | rfl | rfl | rfl <;> exact ck_of rfl
theorem cal_nl (A B : Int) (t : Bool) : ∀ x ∈ calL A B t, x.l = [] := fun x hx => by
  cases t
  · simp only [calL, Bool.false_eq_true, if_false, List.cons_append, List.nil_append, List.mem_cons, List.not_mem_nil, or_false] at hx
    rcases hx with rfl | rfl | rfl <;> rfl
  · simp only [calL, if_true, List.cons_append, List.nil_append, List.mem_cons, List.not_mem_nil, or_false] at hx
    rcases hx with rfl | rfl | rfl | rfl <;> rfl
theorem cal_len (A B : Int) (t : Bool) : (calL A B t).length ≤ 100000 := by cases t <;> simp [calL]
theorem cal_ok {A B D : Int} (t : Bool) (hA : A = 0 ∨ A = 1) (hB : B = 0 ∨ B = 1) (hD : D = 0 ∨ D = 1) :
    (chkP (fullM [] (resL (1 + D)) [⟨[], calL A B t⟩, oneC]) 0 == (if (if (1 + A == 2) = true then (1 + B == 1) else false) = true then (1 + D == 2) else false)) = true := by
  rcases hA with rfl | rfl <;> rcases hB with rfl | rfl <;> rcases hD with rfl | rfl <;> cases t <;> decide +kernel
theorem law_checkCalls2 (a b r : Int) (t : Bool) : SCall Tryz.prog 8 [.int .i64 a, .int .i64 b, .int .i64 r, .bool t] [] (fun y σ => y = .bool true ∧ σ = []) := by
  have hA := b1_two a
  have hB := b1_two b
  have hD := b1_two r
  unfold b1 at hA hB hD
  refine scall_of (n := 54) (ks := [0, 1, 2, 3, 8, 9, 10, 13, 30]) Tryz.func8 rfl rfl (Nat.le_of_ble_eq_true rfl) ?_
  refine sq65 ?_
  refine puA Tryz.call14 law_begun8 rfl pargsT nofT ?_
  refine sq99 ?_
  refine sq27 ?_
  refine sq71 ?_
  refine lo (lop_move (E rfl)) rfl ?_
  refine sq71 ?_
  refine lo (lop_move (E rfl)) rfl ?_
  refine sq71 ?_
  refine sq23 ?_
  generalize IntKind.wrap .i64 ((BitVec.ofInt (IntKind.bits .i64) a &&& BitVec.ofInt (IntKind.bits .i64) 1).toNat : Int) = A at hA ⊢
  generalize IntKind.wrap .i64 ((BitVec.ofInt (IntKind.bits .i64) b &&& BitVec.ofInt (IntKind.bits .i64) 1).toNat : Int) = B at hB ⊢
  generalize IntKind.wrap .i64 ((BitVec.ofInt (IntKind.bits .i64) r &&& BitVec.ofInt (IntKind.bits .i64) 1).toNat : Int) = D at hD ⊢
  refine sq1 ?_
  refine z17 ?_
  refine sq98 ?_
  refine z17 ?_
  refine z93 ?_
  refine z1 ?_; refine freshT fun r29 h29 => ?_; repeat rcases h29 with ⟨_, h29⟩
  refine sq37 ?_
  refine sq4 ?_
  refine sw_cond rfl (fun g6 => ?_) (fun g6 => ?_)
  · have ht : t = true := g6
    refine sq7 ?_
    refine z93 ?_
    refine z93 ?_
    refine z1 ?_; refine freshT fun r34 h34 => ?_; repeat rcases h34 with ⟨_, h34⟩
    refine apA ((calL A B t).map encNl) (calL A B t).length ?_ (he := by rw [ht]; rfl) (hl' := by rw [ht]; rfl) (hmax := by have := cal_len A B t; simp [maxLen]; omega) (hby := by have := cal_len A B t; omega)
    refine apnT fun r35 h35 => ?_; repeat rcases h35 with ⟨_, h35⟩
    refine sq2 ?_
    obtain ⟨R, rfl⟩ : ∃ R, R = r35 := ⟨_, rfl⟩
    refine sq5 ?_
    refine fzv (j := 41) rfl sdelT (bor_own sgT (by simp)) ?_
    refine rs_go (sgo_vle (j := 41) rfl (vle_nl (l := calL A B t) (cal_nl A B t))) ?_
    refine puA Tryz.call21 (law_fits (1 + D) (calL A B t) (cal_len A B t) (cal_ck A B t)) rfl pargsT nofT ?_
    refine sq66 ?_
    refine sq10 ?_
    refine z112 ?_
    refine z68 ?_
    refine sq10 ?_
    refine z112 ?_
    refine z68 ?_
    refine sq55 ?_
    apply aend; exact resT
    · exact ⟨congrArg AV.bool (cal_ok _ hA hB hD), rfl⟩
    · exact stleT
  have ht : t = false := g6
  refine sq7 ?_
  refine z93 ?_
  refine z1 ?_; refine freshT fun r38 h38 => ?_; repeat rcases h38 with ⟨_, h38⟩
  refine apA ((calL A B t).map encNl) (calL A B t).length ?_ (he := by rw [ht]; rfl) (hl' := by rw [ht]; rfl) (hmax := by have := cal_len A B t; simp [maxLen]; omega) (hby := by have := cal_len A B t; omega)
  refine apnT fun r39 h39 => ?_; repeat rcases h39 with ⟨_, h39⟩
  refine sq2 ?_
  obtain ⟨R, rfl⟩ : ∃ R, R = r39 := ⟨_, rfl⟩
  refine sq5 ?_
  refine fzv (j := 41) rfl sdelT (bor_own sgT (by simp)) ?_
  refine rs_go (sgo_vle (j := 41) rfl (vle_nl (l := calL A B t) (cal_nl A B t))) ?_
  refine puA Tryz.call21 (law_fits (1 + D) (calL A B t) (cal_len A B t) (cal_ck A B t)) rfl pargsT nofT ?_
  refine sq66 ?_
  refine sq10 ?_
  refine z112 ?_
  refine z68 ?_
  refine sq10 ?_
  refine z112 ?_
  refine z68 ?_
  refine sq55 ?_
  apply aend; exact resT
  · exact ⟨congrArg AV.bool (cal_ok _ hA hB hD), rfl⟩
  · exact stleT
theorem law_checkCalls3 (a b r : Int) (t : Bool) : SCall Tryz.prog 8 [.int .i64 a, .int .i64 b, .int .i64 r, .bool t] [] (fun y _ => y = .bool true) := (law_checkCalls2 a b r t).mono fun _ _ h => h.1
/-
  A local, a global that may be set is set with its own kind.
-/
def setL (A o n : Int) : List Ins := [⟨64 + (1 + A), 0, 0, []⟩, ⟨o, n, 0, []⟩]
def getL (n : Int) : List Ins := [⟨35, n, 0, []⟩]
theorem set_ck {A o n : Int} (hn : n = 0 ∨ n = 1 ∨ n = 2) : ∀ x ∈ setL A o n, x.Ck := fun x hx => by
  simp only [setL, List.mem_cons, List.not_mem_nil, or_false] at hx
  rcases hn with rfl | rfl | rfl <;> rcases hx with rfl | rfl <;> exact ck_of rfl
theorem get_ck {n : Int} (hn : n = 0 ∨ n = 1) : ∀ x ∈ getL n, x.Ck := fun x hx => by
  simp only [getL, List.mem_cons, List.not_mem_nil, or_false] at hx
  rcases hn with rfl | rfl <;> subst hx <;> exact ck_of rfl
section
set_option maxRecDepth 100000
theorem set_ok1 {A : Int} (hA : A = 0 ∨ A = 1) : (chkP (fullM [] (resL 0) [⟨[], setL A 36 0⟩, oneC]) 0 == (1 + A == 1)) = true := by rcases hA with rfl | rfl <;> decide +kernel
theorem set_ok2 {A : Int} (hA : A = 0 ∨ A = 1) : chkP (fullM [] (resL 0) [⟨[], setL A 36 1⟩, oneC]) 0 = false := by rcases hA with rfl | rfl <;> decide +kernel
theorem set_ok3 {A : Int} (hA : A = 0 ∨ A = 1) : chkP (fullM [] (resL 0) [⟨[], setL A 36 2⟩, oneC]) 0 = false := by rcases hA with rfl | rfl <;> decide +kernel
theorem set_ok4 {A : Int} (hA : A = 0 ∨ A = 1) : chkP (fullM [] (resL 0) [⟨[], setL A 33 0⟩, oneC]) 0 = false := by rcases hA with rfl | rfl <;> decide +kernel
theorem get_ok1 : chkP (fullM [] (resL 2) [⟨[], getL 1⟩, oneC]) 0 = true := by decide +kernel
theorem get_ok2 : chkP (fullM [] (resL 1) [⟨[], getL 1⟩, oneC]) 0 = false := by decide +kernel
theorem get_ok3 : chkP (fullM [] (resL 1) [⟨[], getL 0⟩, oneC]) 0 = true := by decide +kernel
end
theorem law_checkSets2 (a w : Int) : SCall Tryz.prog 10 [.int .i64 a, .int .i64 w] [] (fun y σ => y = .bool true ∧ σ = []) := by
  have hA := b1_two a
  unfold b1 at hA
  have v1 := law_fits 2 (getL 1) (by simp [getL]) (get_ck (.inr rfl))
  have v2 := law_fits 1 (getL 1) (by simp [getL]) (get_ck (.inr rfl))
  have v3 := law_fits 1 (getL 0) (by simp [getL]) (get_ck (.inl rfl))
  rw [get_ok1] at v1
  rw [get_ok2] at v2
  rw [get_ok3] at v3
  refine scall_of (n := 62) (ks := [0, 1, 4, 5, 6, 9, 17, 18, 27, 34]) Tryz.func10 rfl rfl (Nat.le_of_ble_eq_true rfl) ?_
  refine sq65 ?_
  refine puA Tryz.call14 law_begun8 rfl pargsT nofT ?_
  refine sq99 ?_
  refine sq27 ?_
  refine sq71 ?_
  refine sq2 ?_
  generalize IntKind.wrap .i64 ((BitVec.ofInt (IntKind.bits .i64) a &&& BitVec.ofInt (IntKind.bits .i64) 1).toNat : Int) = A at hA ⊢
  have w1 := law_fits 0 (setL A 36 0) (by simp [setL]) (set_ck (.inl rfl))
  have w2 := law_fits 0 (setL A 36 1) (by simp [setL]) (set_ck (.inr (.inl rfl)))
  have w3 := law_fits 0 (setL A 36 2) (by simp [setL]) (set_ck (.inr (.inr rfl)))
  have w4 := law_fits 0 (setL A 33 0) (by simp [setL]) (set_ck (.inl rfl))
  rw [set_ok2 hA] at w2
  rw [set_ok3 hA] at w3
  rw [set_ok4 hA] at w4
  refine sq1 ?_
  refine z17 ?_
  refine z93 ?_
  apply al; rfl; (exact zcT); refine freshT fun r6 h6 => ?_; repeat rcases h6 with ⟨_, h6⟩
  apply stp; rfl; rfl; rfl; rfl; (exact sputT)
  refine sq27 ?_
  refine lo (lop_and (E rfl) (E rfl)) rfl ?_
  refine leT ?_
  refine sq24 ?_
  refine sw_cond rfl (fun g7 => ?_) (fun g7 => ?_)
  · refine sq3 ?_
    refine z99 ?_
    refine z93 ?_
    refine z1 ?_; refine freshT fun r22 h22 => ?_; repeat rcases h22 with ⟨_, h22⟩
    refine fzv (j := 22) rfl sdelT (bor_own sgT (by simp)) ?_
    refine rs_go (sgo_vle (j := 22) rfl (vle_nl (l := setL A 36 0) (by simp [setL]))) ?_
    refine puA Tryz.call21 w1 rfl pargsT nofT ?_
    refine sq66 ?_
    refine sq55 ?_
    apply aend; exact resT
    · exact ⟨congrArg AV.bool (set_ok1 hA), rfl⟩
    · exact stleT
  refine sq24 ?_
  refine sw_cond rfl (fun g9 => ?_) (fun g9 => ?_)
  · refine sq3 ?_
    refine z99 ?_
    refine z93 ?_
    refine z1 ?_; refine freshT fun r31 h31 => ?_; repeat rcases h31 with ⟨_, h31⟩
    refine fzv (j := 31) rfl sdelT (bor_own sgT (by simp)) ?_
    refine rs_go (sgo_vle (j := 31) rfl (vle_nl (l := setL A 36 1) (by simp [setL]))) ?_
    refine puA Tryz.call21 w2 rfl pargsT nofT ?_
    refine sq53 ?_
    apply aend; exact resT
    · exact ⟨rfl, rfl⟩
    · exact stleT
  refine sq24 ?_
  refine sw_cond rfl (fun g11 => ?_) (fun g11 => ?_)
  · refine sq3 ?_
    refine z99 ?_
    refine z93 ?_
    refine z1 ?_; refine freshT fun r38 h38 => ?_; repeat rcases h38 with ⟨_, h38⟩
    refine fzv (j := 38) rfl sdelT (bor_own sgT (by simp)) ?_
    refine rs_go (sgo_vle (j := 38) rfl (vle_nl (l := setL A 36 2) (by simp [setL]))) ?_
    refine puA Tryz.call21 w3 rfl pargsT nofT ?_
    refine lo (lop_not (E rfl)) rfl ?_
    refine sq69 ?_
    refine z178 ?_
    refine z179 ?_; refine freshT fun r44 h44 => ?_; repeat rcases h44 with ⟨_, h44⟩
    refine fzv (j := 44) rfl sdelT (bor_own sgT (by simp)) ?_
    refine rs_go (sgo_vle (j := 44) rfl (vle_nl (l := setL A 33 0) (by simp [setL]))) ?_
    refine gy rfl rfl ?_
    refine puA Tryz.call21 w4 rfl pargsT nofT ?_
    refine sq54 ?_
    apply aend; exact resT
    · exact ⟨rfl, rfl⟩
    · exact stleT
  refine sq3 ?_
  refine z93 ?_
  refine z1 ?_; refine freshT fun r49 h49 => ?_; repeat rcases h49 with ⟨_, h49⟩
  refine fzv (j := 49) rfl sdelT (bor_own sgT (by simp)) ?_
  refine rs_go (sgo_vle (j := 49) rfl (vle_nl (l := getL 1) (by simp [getL]))) ?_
  refine puA Tryz.call21 v1 rfl pargsT nofT ?_
  refine lo (lop_move (E rfl)) rfl ?_
  refine z178 ?_
  refine z179 ?_; refine freshT fun r53 h53 => ?_; repeat rcases h53 with ⟨_, h53⟩
  refine fzv (j := 53) rfl sdelT (bor_own sgT (by simp)) ?_
  refine rs_go (sgo_vle (j := 53) rfl (vle_nl (l := getL 1) (by simp [getL]))) ?_
  refine gy rfl rfl ?_
  refine puA Tryz.call21 v2 rfl pargsT nofT ?_
  refine z130 ?_
  refine z68 ?_
  refine lo (lop_move (E rfl)) rfl ?_
  refine z178 ?_
  refine z179 ?_; refine freshT fun r59 h59 => ?_; repeat rcases h59 with ⟨_, h59⟩
  refine fzv (j := 59) rfl sdelT (bor_own sgT (by simp)) ?_
  refine rs_go (sgo_vle (j := 59) rfl (vle_nl (l := getL 0) (by simp [getL]))) ?_
  refine gy rfl rfl ?_
  refine puA Tryz.call21 v3 rfl pargsT nofT ?_
  refine sq31 ?_
  apply aend; exact resT
  · exact ⟨rfl, rfl⟩
  · exact stleT
theorem law_checkSets3 (a w : Int) : SCall Tryz.prog 10 [.int .i64 a, .int .i64 w] [] (fun y _ => y = .bool true) := (law_checkSets2 a w).mono fun _ _ h => h.1
/-
  Nothing may be left over, and nothing be missing, at the body's end; behind a return all is well.
-/
def lefL (R : Int) (n : Nat) : List Ins := List.replicate n ⟨64 + (if R < 1 then 1 else R), 0, 0, []⟩
def lefE (R : Int) (n : Nat) (e : Bool) : List Ins := lefL R n ++ if e = true then [⟨15, 0, 0, []⟩] else []
theorem lef_mem {R : Int} {n : Nat} {e : Bool} : ∀ x ∈ lefE R n e, x.a = 0 ∧ x.l = [] := fun x hx => by
  rcases List.mem_append.1 hx with hx | hx
  · rw [List.eq_of_mem_replicate hx]; exact ⟨rfl, rfl⟩
  · cases e
    · simp at hx
    · simp at hx; subst hx; exact ⟨rfl, rfl⟩
theorem lef_ck {R : Int} {n : Nat} {e : Bool} : ∀ x ∈ lefE R n e, x.Ck := fun x hx => by
  obtain ⟨h1, h2⟩ := lef_mem x hx
  exact ⟨fun _ => by rw [h1]; exact Int.le_refl 0, fun _ => by rw [h2]; simp, by rw [h2]; simp, by rw [h1]; decide⟩
theorem lef_len {R : Int} {n : Nat} (hn : n ≤ 5) (e : Bool) : (lefE R n e).length ≤ 6 := by cases e <;> simp [lefE, lefL] <;> omega
theorem lef_next (R : Int) (n : Nat) : lefL R n ++ [⟨64 + (if R < 1 then 1 else R), 0, 0, []⟩] = lefL R (n + 1) := by unfold lefL; rw [List.replicate_succ']
def minN (R : Int) : Int := if 1 < R then 1 else R
section
set_option maxRecDepth 100000
theorem lef_ok1 {R : Int} {n : Nat} (hR : R = 0 ∨ R = 1 ∨ R = 2) (hn : n = 0 ∨ n = 1 ∨ n = 2 ∨ n = 3 ∨ n = 4 ∨ n = 5) :
    (chkP (fullM [] (resL R) [⟨[], lefE R n true⟩, oneC]) 0 == decide (minN R ≤ (n : Int))) = true := by
  rcases hR with rfl | rfl | rfl <;> rcases hn with rfl | rfl | rfl | rfl | rfl | rfl <;> decide +kernel
theorem lef_ok2 {R : Int} {n : Nat} (hR : R = 0 ∨ R = 1 ∨ R = 2) (hn : n = 0 ∨ n = 1 ∨ n = 2 ∨ n = 3 ∨ n = 4 ∨ n = 5) :
    (chkP (fullM [] (resL R) [⟨[], lefE R n false⟩, oneC]) 0 == ((n : Int) == minN R)) = true := by
  rcases hR with rfl | rfl | rfl <;> rcases hn with rfl | rfl | rfl | rfl | rfl | rfl <;> decide +kernel
end
theorem mod3 (w : Int) : (-3 < w.tmod 3 ∧ w.tmod 3 < 3) ∧ ((w.tmod 3 + 3).tmod 3 = 0 ∨ (w.tmod 3 + 3).tmod 3 = 1 ∨ (w.tmod 3 + 3).tmod 3 = 2) := by
  have h1 : -3 < w.tmod 3 ∧ w.tmod 3 < 3 := ⟨Int.lt_tmod_of_pos w (by decide), Int.tmod_lt_of_pos w (by decide)⟩
  have h2 := Int.tmod_nonneg (a := w.tmod 3 + 3) 3 (by omega)
  have h3 := Int.tmod_lt_of_pos (w.tmod 3 + 3) (show (0 : Int) < 3 by decide)
  exact ⟨h1, by omega⟩
theorem law_checkLeft2 (a r : Int) (e : Bool) : SCall Tryz.prog 11 [.int .i64 a, .int .i64 r, .bool e] [] (fun y σ => y = .bool true ∧ σ = []) := by
  obtain ⟨hr1, hr2⟩ := mod3 r
  refine scall_of (n := 54) (ks := [0, 1, 2, 6, 7, 8, 9, 10, 13, 19, 26, 40]) Tryz.func11 rfl rfl (Nat.le_of_ble_eq_true rfl) ?_
  refine sq65 ?_
  refine puA Tryz.call14 law_begun8 rfl pargsT nofT ?_
  refine sq99 ?_
  refine sq27 ?_
  refine sq87 ?_
  refine z125 ?_
  refine z113 ?_
  refine sq4 ?_
  refine sw_cond rfl (fun g4 => ?_) (fun g4 => ?_)
  · refine sq8 ?_
    apply aend; exact resT
    · exact ⟨rfl, rfl⟩
    · exact stleT
  obtain ⟨n, rfl, hn⟩ : ∃ n : Nat, a = n ∧ n ≤ 5 := by
    have : ∀ p q : Bool, (if p = true then true else q) = false → p = false ∧ q = false := by intro p q; cases p <;> cases q <;> simp
    obtain ⟨h1, h2⟩ := this _ _ g4
    simp only [decide_eq_false_iff_not] at h1 h2
    exact ⟨a.toNat, by omega, by omega⟩
  refine sq7 ?_
  refine z22 ?_
  refine z17 ?_
  refine z22 ?_
  refine sq2 ?_
  generalize (r.tmod 3 + 3).tmod 3 = R at hr2 ⊢
  refine rgT ?_
  refine sq25 ?_
  refine sq2 ?_
  refine sw_virt 8 45 4 (by decide) rfl (by decide) (freshT fun p0 hp0 => ?_); repeat rcases hp0 with ⟨_, hp0⟩
  refine lp (β := Nat × Nat) (fun b => ⟨[(0, .int .i64 n), (1, .int .i64 R), (2, .bool e), (8, .own b.2 0 (lefL R b.1).length), (9, .int .i64 b.1)], [(b.2, .arr 45 4 ((lefL R b.1).map encNl))]⟩) (fun b => b.1 ≤ n) (fun b => n - b.1) (0, p0) sgoT (Nat.zero_le _) ?_
  rintro ⟨j, p⟩ hj
  dsimp only at hj ⊢
  have hrl : (lefL R j).length = j := by simp [lefL]
  refine sq18 ?_
  refine sq13 ?_
  refine sw_cond rfl (fun g9 => ?_) (fun g9 => ?_)
  · have hlt : j < n := by simpa using g9
    refine sq18 ?_
    refine lo (lop_max (E rfl) (E rfl)) rfl ?_
    refine z17 ?_
    refine z93 ?_
    refine z1 ?_; refine freshT fun r34 h34 => ?_; repeat rcases h34 with ⟨_, h34⟩
    refine apA ((lefL R j ++ [(⟨64 + (if R < 1 then 1 else R), 0, 0, []⟩ : Ins)]).map encNl) (lefL R j ++ [(⟨64 + (if R < 1 then 1 else R), 0, 0, []⟩ : Ins)]).length ?_
    refine apnT fun r35 h35 => ?_; repeat rcases h35 with ⟨_, h35⟩
    refine sq37 ?_
    refine z17 ?_
    refine sq2 ?_
    refine ⟨(j + 1, r35), hlt, by show n - (j + 1) < n - j; omega, ?_⟩
    dsimp only
    rw [← lef_next R j]
    exact sgoT
  obtain rfl : j = n := by simp at g9; omega
  refine sq18 ?_
  refine lo (lop_min (E rfl) (E rfl)) rfl ?_
  refine sq6 ?_
  have h6 : j = 0 ∨ j = 1 ∨ j = 2 ∨ j = 3 ∨ j = 4 ∨ j = 5 := by omega
  have hel := lef_len (R := R) hn e
  refine sq1 ?_
  refine sq4 ?_
  refine sw_cond rfl (fun g13 => ?_) (fun g13 => ?_)
  · have he : e = true := g13
    have hok : (chkP (fullM [] (resL R) [⟨[], lefE R j e⟩, oneC]) 0 == decide (minN R ≤ (j : Int))) = true := by rw [he]; exact lef_ok1 hr2 h6
    refine sq7 ?_
    refine z93 ?_
    refine z1 ?_; refine freshT fun r43 h43 => ?_; repeat rcases h43 with ⟨_, h43⟩
    refine apA ((lefE R j e).map encNl) (lefE R j e).length ?_ (he := by rw [he]; simp [lefE, encNl]) (hl' := by rw [he]; simp [lefE]) (hmax := by simp [maxLen]; omega) (hby := by omega)
    refine apnT fun r44 h44 => ?_; repeat rcases h44 with ⟨_, h44⟩
    refine sq64 ?_
    refine lo (lop_min (E rfl) (E rfl)) rfl ?_
    refine sq45 ?_
    refine sq5 ?_
    refine fzv (j := 50) rfl sdelT (bor_own sgT (by simp)) ?_
    refine rs_go (sgo_vle (j := 50) rfl (vle_nl (l := lefE R j e) (fun x hx => (lef_mem x hx).2))) ?_
    refine puA Tryz.call21 (law_fits R (lefE R j e) (by omega) lef_ck) rfl pargsT nofT ?_
    refine lo (lop_move (E rfl)) rfl ?_
    refine sq55 ?_
    apply aend; exact resT
    · exact ⟨congrArg AV.bool hok, rfl⟩
    · exact stleT
  have he : e = false := g13
  have hok : (chkP (fullM [] (resL R) [⟨[], lefE R j e⟩, oneC]) 0 == ((j : Int) == minN R)) = true := by rw [he]; exact lef_ok2 hr2 h6
  rw [show lefL R j = lefE R j e by rw [he]; simp [lefE]]
  refine sq18 ?_
  refine fzv (j := 50) rfl sdelT (bor_own sgT (by simp)) ?_
  refine rs_go (sgo_vle (j := 50) rfl (vle_nl (l := lefE R j e) (fun x hx => (lef_mem x hx).2))) ?_
  refine puA Tryz.call21 (law_fits R (lefE R j e) (by omega) lef_ck) rfl pargsT nofT ?_
  refine lo (lop_move (E rfl)) rfl ?_
  refine sq55 ?_
  apply aend; exact resT
  · exact ⟨congrArg AV.bool hok, rfl⟩
  · exact stleT
theorem law_checkLeft3 (a r : Int) (e : Bool) : SCall Tryz.prog 11 [.int .i64 a, .int .i64 r, .bool e] [] (fun y _ => y = .bool true) := (law_checkLeft2 a r e).mono fun _ _ h => h.1
end Go.Proofs.YthhlimmcncbopaaGreat
