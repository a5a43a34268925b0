import Derived.Test.YthhlimmcncbopaaGreatCA3
import Derived.Test.YthhlimmcncbopaaGreatCA2
set_option linter.unusedSimpArgs false
set_option linter.unusedVariables false
set_option maxRecDepth 100000
set_option maxHeartbeats 4000000
/-
  What writes a part: the function values of written; a module is written.
-/
namespace Go.Proofs.YthhlimmcncbopaaGreat
open Go.RowKit Go.ChangeShapes Go.WideShapes Go.ChangeAt Go.Deep
attribute [local irreducible] SW RS RD AThen ABlock
theorem vec_len {α : Type} {pt : α → List Nat} {l : List α} {c : Nat} (h : ∀ x ∈ l, (pt x).length ≤ c) (hl : l.length ≤ 1000) : (vecB l pt).length ≤ 2 + l.length * c := by
  have hu := uB_len 1 l.length (by omega)
  have h1 : ∀ (l : List α), (∀ x ∈ l, (pt x).length ≤ c) → (l.flatMap pt).length ≤ l.length * c := by
    intro l
    induction l with
    | nil => simp
    | cons x l ih =>
      intro h
      have := ih fun y hy => h y (List.mem_cons_of_mem _ hy)
      have hx := h x List.mem_cons_self
      rw [List.flatMap_cons, List.length_append, List.length_cons, Nat.add_mul]
      omega
  have := h1 l h
  unfold vecB
  rw [List.length_append]
  omega
theorem kB_len (k : Int) : (kB k).length = 1 := by unfold kB; split <;> rfl
theorem nu_len {n : Int} (h : smN_ n = true) : (numB n).length ≤ 2 := by
  have : 0 ≤ n ∧ n ≤ 1000 := by
    unfold smN_ at h
    by_cases h0 : 0 ≤ n
    · rw [if_pos (by simpa using h0)] at h; exact ⟨h0, by simpa using h⟩
    · rw [if_neg (by simpa using h0)] at h; cases h
  exact uB_len 1 _ (by omega)
theorem puts_kind : Puts Tryz.prog 5 134 (fun k : Int => .int .i64 k) kB (fun _ => True) 1 20000000 :=
  ⟨Tryz.call134, fun q vs x _ _ hvs => ⟨Nat.le_of_eq (kB_len x), wasm_putKind q vs (by omega) x⟩⟩
theorem int_num (q : Nat) (vs : List Nat) (hvs : vs.length ≤ 50000000) (n : Int) (h0 : 0 ≤ n) (h1 : n < 9223372036854775808) : SCall Tryz.prog 137 [.own q 0 vs.length, .int .i64 n] [(q, .arr 5 1 (vs.map encU))]
    (fun y σ => ∃ r, y = .own r 0 (vs ++ numB n).length ∧ σ = [(r, .arr 5 1 ((vs ++ numB n).map encU))]) := by
  obtain ⟨m, rfl⟩ := Int.eq_ofNat_of_zero_le h0
  exact wasm_num q vs hvs m (by omega)
theorem sm_bd {n : Int} (h : smN_ n = true) : 0 ≤ n ∧ n ≤ 1000 := by
  unfold smN_ at h
  by_cases h0 : 0 ≤ n
  · rw [if_pos (by simpa using h0)] at h; exact ⟨h0, by simpa using h⟩
  · rw [if_neg (by simpa using h0)] at h; cases h
theorem puts_num : Puts Tryz.prog 5 137 (fun n : Int => .int .i64 n) numB (fun n => smN_ n = true) 2 20000000 :=
  ⟨Tryz.call137, fun q vs n h _ hvs => ⟨nu_len h, int_num q vs (by omega) n (sm_bd h).1 (by have := (sm_bd h).2; omega)⟩⟩
theorem w_ft (q : Nat) (vs : List Nat) (hvs : vs.length ≤ 10000000) (pr rs : List Int) (h1 : pr.length ≤ 32) (h2 : rs.length ≤ 1) : SCall Tryz.prog 132 [.own q 0 vs.length, .agg (encFT ⟨pr, rs⟩)] [(q, .arr 5 1 (vs.map encU))]
    (fun y σ => ∃ r, y = .own r 0 (vs ++ ftB ⟨pr, rs⟩).length ∧ σ = [(r, .arr 5 1 ((vs ++ ftB ⟨pr, rs⟩).map encU))]) := by
  have l1 := vec_len (pt := kB) (l := pr) (c := 1) (fun x _ => Nat.le_of_eq (kB_len x)) (by omega)
  refine scall_of (n := 14) (ks := [0, 1, 3, 4]) Tryz.func132 rfl rfl (Nat.le_of_ble_eq_true rfl) ?_
  unfold encFT
  refine sq3 ?_
  apply bx; rfl; rfl; (exact zcT); rfl; refine freshT fun r3 h3 => ?_; repeat rcases h3 with ⟨_, h3⟩
  refine sq2 ?_
  refine rgD [(0, true), (3, true), (4, true), (6, true), (7, true), (1, false), (2, false), (5, false), (8, false), (9, true)] ?_
  refine sq72 ?_
  refine sq22 ?_
  refine z97 ?_; refine freshT fun r6 h6 => ?_; repeat rcases h6 with ⟨_, h6⟩
  refine dapA rfl ((vs ++ [96]).map encU) (vs ++ [96]).length ?_
  refine apnT fun r7 h7 => ?_; repeat rcases h7 with ⟨_, h7⟩
  refine dcw [(r7, .arr 5 1 ((vs ++ [96]).map encU))] rfl Tryz.call133 (vec_int puts_kind (by decide) r7 (vs ++ [96]) pr (fun _ _ => trivial) (by omega) (by simp; omega)) rfl argsleT stleT hbtT ?_
  rintro _ σ' ⟨r10, rfl, rfl⟩ h10
  have k10 := rest1T h10; repeat rcases k10 with ⟨_, k10⟩
  apply rd_sto; exact nflT
  refine dcw [(r10, .arr 5 1 ((vs ++ [96] ++ vecB pr kB).map encU))] rfl Tryz.call133 (vec_int puts_kind (by decide) r10 (vs ++ [96] ++ vecB pr kB) rs (fun _ _ => trivial) (by omega) (by simp; omega)) rfl argsleT stleT hbtT ?_
  rintro _ σ' ⟨r13, rfl, rfl⟩ h13
  have k13 := rest1T h13; repeat rcases k13 with ⟨_, k13⟩
  apply rd_sto; exact nflT
  refine sq70 ?_
  rw [show vs ++ [96] ++ vecB pr kB ++ vecB rs kB = vs ++ ftB ⟨pr, rs⟩ by unfold ftB; simp]
  apply aend; exact resT
  · exact ⟨r13, rfl, rfl⟩
  · exact stleT
theorem puts_ft : Puts Tryz.prog 5 132 (fun x => .agg (encFT x)) ftB (fun t => (allN t.pr 32 kdN && allN t.rs 1 kdN) = true) 100 10000000 :=
  ⟨Tryz.call132, fun q vs x h _ hvs => by
    obtain ⟨pr, rs⟩ := x
    have h1 : pr.length ≤ 32 := by simp [allN] at h; omega
    have h2 : rs.length ≤ 1 := by simp [allN] at h; omega
    have l1 := vec_len (pt := kB) (l := pr) (c := 1) (fun x _ => Nat.le_of_eq (kB_len x)) (by omega)
    have l2 := vec_len (pt := kB) (l := rs) (c := 1) (fun x _ => Nat.le_of_eq (kB_len x)) (by omega)
    exact ⟨by unfold ftB; simp; omega, w_ft q vs hvs pr rs h1 h2⟩⟩
theorem bytes_txt {s : List Nat} (h : nmN s = true) : s.length ≤ 16 ∧ (∀ c ∈ s, c < 256) ∧ (txtB s).length ≤ 18 := by
  unfold nmN at h
  split at h
  · simp only [Bool.and_eq_true, decide_eq_true_eq, List.all_eq_true] at h
    refine ⟨h.1, fun c hc => by have := (h.2 c hc).2; omega, ?_⟩
    have := uB_len 1 s.length (by omega)
    unfold txtB; rw [List.length_append]; omega
  · cases h
theorem w_im (q : Nat) (vs : List Nat) (hp : 0 < vs.length) (hvs : vs.length ≤ 10000000) (md nm : List Nat) (ty : Int) (m1 : nmN md = true) (m2 : nmN nm = true) (m3 : smN_ ty = true) : SCall Tryz.prog 136 [.own q 0 vs.length, .agg (encIm ⟨md, nm, ty⟩)] [(q, .arr 5 1 (vs.map encU))]
    (fun y σ => ∃ r, y = .own r 0 (vs ++ imB ⟨md, nm, ty⟩).length ∧ σ = [(r, .arr 5 1 ((vs ++ imB ⟨md, nm, ty⟩).map encU))]) := by
  obtain ⟨a1, a2, a3⟩ := bytes_txt m1
  obtain ⟨b1, b2, b3⟩ := bytes_txt m2
  refine scall_of (n := 17) (ks := [0, 1, 3, 4]) Tryz.func136 rfl rfl (Nat.le_of_ble_eq_true rfl) ?_
  unfold encIm
  refine sq3 ?_
  apply bx; rfl; rfl; (exact zcT); rfl; refine freshT fun r3 h3 => ?_; repeat rcases h3 with ⟨_, h3⟩
  refine sq2 ?_
  refine rgD [(0, true), (1, true), (2, true), (4, true), (5, true), (9, true), (10, true), (13, false), (13, false), (13, false), (13, false), (13, false), (13, false)] ?_
  refine sq72 ?_
  refine sq22 ?_
  refine sq22 ?_
  refine rd_fork2 3 7 [(13, false), (13, false), (13, false), (13, false), (13, false)] [(3, false), (6, false), (8, false), (11, false), (12, true)] (f1 := [q]) (f2 := []) (by kernel_rfl) rfl rfl ?_ ?_ (.inr ⟨by simp, hbtT⟩) (.inl rfl)
  · refine hop_call (σ1 := [(q, .arr 5 1 (vs.map encU))]) Tryz.call138 (wasm_text q vs hp (by omega) md (by omega) a2) (lt_ble rfl) argsleT stleT ?_
    rintro _ σ' ⟨r8, rfl, rfl⟩ h8
    have k8 := rest1T h8; repeat rcases k8 with ⟨_, k8⟩
    apply rd_sto; exact nflT
    refine rd_fork2 6 7 [(7, false), (8, false), (11, false), (12, true)] [(6, false), (8, false), (11, false), (12, true)] (f1 := [r8]) (f2 := []) (by kernel_rfl) rfl rfl ?_ ?_ (.inr ⟨by simp, hbtT⟩) (.inl rfl)
    · refine hop_call (σ1 := [(r8, .arr 5 1 ((vs ++ txtB md).map encU))]) Tryz.call138 (wasm_text r8 (vs ++ txtB md) (by simp; omega) (by simp; omega) nm (by omega) b2) (lt_ble rfl) argsleT stleT ?_
      rintro _ σ' ⟨r11, rfl, rfl⟩ h11
      have k11 := rest1T h11; repeat rcases k11 with ⟨_, k11⟩
      apply rd_sto; exact nflT
      refine z97 ?_; refine freshT fun r12 h12 => ?_; repeat rcases h12 with ⟨_, h12⟩
      refine dapA rfl ((vs ++ txtB md ++ txtB nm ++ [0]).map encU) (vs ++ txtB md ++ txtB nm ++ [0]).length ?_
      refine apnT fun r13 h13 => ?_; repeat rcases h13 with ⟨_, h13⟩
      refine dcw [(r13, .arr 5 1 ((vs ++ txtB md ++ txtB nm ++ [0]).map encU))] rfl Tryz.call137 (int_num r13 (vs ++ txtB md ++ txtB nm ++ [0]) (by simp; omega) ty (sm_bd m3).1 (by have := (sm_bd m3).2; omega)) rfl argsleT stleT hbtT ?_
      rintro _ σ' ⟨r16, rfl, rfl⟩ h16
      have k16 := rest1T h16; repeat rcases k16 with ⟨_, k16⟩
      apply rd_sto; exact nflT
      refine sq70 ?_
      rw [show vs ++ txtB md ++ txtB nm ++ [0] ++ numB ty = vs ++ imB ⟨md, nm, ty⟩ by unfold imB; simp]
      apply aend; exact resT
      · exact ⟨r16, rfl, rfl⟩
      · exact stleT
    · apply hopbs; infer_instance; infer_instance; (exact aevtT); rfl; rfl; rfl; rfl; (exact zcT); rfl; refine freshT fun r12 h12 => ?_; repeat rcases h12 with ⟨_, h12⟩
      refine dcw [(r8, .arr 5 1 ((vs ++ txtB md).map encU))] rfl Tryz.call138 (wasm_text r8 (vs ++ txtB md) (by simp; omega) (by simp; omega) nm (by omega) b2) rfl argsleT stleT hbtT ?_
      rintro _ σ' ⟨r11, rfl, rfl⟩ h11
      have k11 := rest1T h11; repeat rcases k11 with ⟨_, k11⟩
      apply rd_sto; exact nflT
      refine dapA rfl ((vs ++ txtB md ++ txtB nm ++ [0]).map encU) (vs ++ txtB md ++ txtB nm ++ [0]).length ?_
      refine apnT fun r13 h13 => ?_; repeat rcases h13 with ⟨_, h13⟩
      refine dcw [(r13, .arr 5 1 ((vs ++ txtB md ++ txtB nm ++ [0]).map encU))] rfl Tryz.call137 (int_num r13 (vs ++ txtB md ++ txtB nm ++ [0]) (by simp; omega) ty (sm_bd m3).1 (by have := (sm_bd m3).2; omega)) rfl argsleT stleT hbtT ?_
      rintro _ σ' ⟨r16, rfl, rfl⟩ h16
      have k16 := rest1T h16; repeat rcases k16 with ⟨_, k16⟩
      apply rd_sto; exact nflT
      refine sq70 ?_
      rw [show vs ++ txtB md ++ txtB nm ++ [0] ++ numB ty = vs ++ imB ⟨md, nm, ty⟩ by unfold imB; simp]
      apply aend; exact resT
      · exact ⟨r16, rfl, rfl⟩
      · exact stleT
  · apply hopbs; infer_instance; infer_instance; (exact aevtT); rfl; rfl; rfl; rfl; (exact zcT); rfl; refine freshT fun r12 h12 => ?_; repeat rcases h12 with ⟨_, h12⟩
    refine dcw [(q, .arr 5 1 (vs.map encU))] rfl Tryz.call138 (wasm_text q vs hp (by omega) md (by omega) a2) rfl argsleT stleT hbtT ?_
    rintro _ σ' ⟨r8, rfl, rfl⟩ h8
    have k8 := rest1T h8; repeat rcases k8 with ⟨_, k8⟩
    apply rd_sto; exact nflT
    refine dcw [(r8, .arr 5 1 ((vs ++ txtB md).map encU))] rfl Tryz.call138 (wasm_text r8 (vs ++ txtB md) (by simp; omega) (by simp; omega) nm (by omega) b2) rfl argsleT stleT hbtT ?_
    rintro _ σ' ⟨r11, rfl, rfl⟩ h11
    have k11 := rest1T h11; repeat rcases k11 with ⟨_, k11⟩
    apply rd_sto; exact nflT
    refine dapA rfl ((vs ++ txtB md ++ txtB nm ++ [0]).map encU) (vs ++ txtB md ++ txtB nm ++ [0]).length ?_
    refine apnT fun r13 h13 => ?_; repeat rcases h13 with ⟨_, h13⟩
    refine dcw [(r13, .arr 5 1 ((vs ++ txtB md ++ txtB nm ++ [0]).map encU))] rfl Tryz.call137 (int_num r13 (vs ++ txtB md ++ txtB nm ++ [0]) (by simp; omega) ty (sm_bd m3).1 (by have := (sm_bd m3).2; omega)) rfl argsleT stleT hbtT ?_
    rintro _ σ' ⟨r16, rfl, rfl⟩ h16
    have k16 := rest1T h16; repeat rcases k16 with ⟨_, k16⟩
    apply rd_sto; exact nflT
    refine sq70 ?_
    rw [show vs ++ txtB md ++ txtB nm ++ [0] ++ numB ty = vs ++ imB ⟨md, nm, ty⟩ by unfold imB; simp]
    apply aend; exact resT
    · exact ⟨r16, rfl, rfl⟩
    · exact stleT
theorem w_ex (q : Nat) (vs : List Nat) (hp : 0 < vs.length) (hvs : vs.length ≤ 10000000) (nm : List Nat) (fn : Int) (m2 : nmN nm = true) (m3 : smN_ fn = true) : SCall Tryz.prog 148 [.own q 0 vs.length, .agg (encEx ⟨nm, fn⟩)] [(q, .arr 5 1 (vs.map encU))]
    (fun y σ => ∃ r, y = .own r 0 (vs ++ exB ⟨nm, fn⟩).length ∧ σ = [(r, .arr 5 1 ((vs ++ exB ⟨nm, fn⟩).map encU))]) := by
  obtain ⟨b1, b2, b3⟩ := bytes_txt m2
  refine scall_of (n := 14) (ks := [0, 1, 3, 4]) Tryz.func148 rfl rfl (Nat.le_of_ble_eq_true rfl) ?_
  unfold encEx
  refine sq3 ?_
  apply bx; rfl; rfl; (exact zcT); rfl; refine freshT fun r3 h3 => ?_; repeat rcases h3 with ⟨_, h3⟩
  refine sq2 ?_
  refine rgD [(0, true), (1, true), (2, true), (6, true), (7, true), (10, false), (10, false), (10, false), (10, false), (10, false)] ?_
  refine sq72 ?_
  refine sq22 ?_
  refine rd_fork2 3 4 [(4, false), (5, false), (8, false), (9, true)] [(3, false), (5, false), (8, false), (9, true)] (f1 := [q]) (f2 := []) (by kernel_rfl) rfl rfl ?_ ?_ (.inr ⟨by simp, hbtT⟩) (.inl rfl)
  · refine hop_call (σ1 := [(q, .arr 5 1 (vs.map encU))]) Tryz.call138 (wasm_text q vs hp (by omega) nm (by omega) b2) (lt_ble rfl) argsleT stleT ?_
    rintro _ σ' ⟨r8, rfl, rfl⟩ h8
    have k8 := rest1T h8; repeat rcases k8 with ⟨_, k8⟩
    apply rd_sto; exact nflT
    refine z97 ?_; refine freshT fun r9 h9 => ?_; repeat rcases h9 with ⟨_, h9⟩
    refine dapA rfl ((vs ++ txtB nm ++ [0]).map encU) (vs ++ txtB nm ++ [0]).length ?_
    refine apnT fun r10 h10 => ?_; repeat rcases h10 with ⟨_, h10⟩
    refine dcw [(r10, .arr 5 1 ((vs ++ txtB nm ++ [0]).map encU))] rfl Tryz.call137 (int_num r10 (vs ++ txtB nm ++ [0]) (by simp; omega) fn (sm_bd m3).1 (by have := (sm_bd m3).2; omega)) rfl argsleT stleT hbtT ?_
    rintro _ σ' ⟨r13, rfl, rfl⟩ h13
    have k13 := rest1T h13; repeat rcases k13 with ⟨_, k13⟩
    apply rd_sto; exact nflT
    refine sq70 ?_
    rw [show vs ++ txtB nm ++ [0] ++ numB fn = vs ++ exB ⟨nm, fn⟩ by unfold exB; simp]
    apply aend; exact resT
    · exact ⟨r13, rfl, rfl⟩
    · exact stleT
  · apply hopbs; infer_instance; infer_instance; (exact aevtT); rfl; rfl; rfl; rfl; (exact zcT); rfl; refine freshT fun r9 h9 => ?_; repeat rcases h9 with ⟨_, h9⟩
    refine dcw [(q, .arr 5 1 (vs.map encU))] rfl Tryz.call138 (wasm_text q vs hp (by omega) nm (by omega) b2) rfl argsleT stleT hbtT ?_
    rintro _ σ' ⟨r8, rfl, rfl⟩ h8
    have k8 := rest1T h8; repeat rcases k8 with ⟨_, k8⟩
    apply rd_sto; exact nflT
    refine dapA rfl ((vs ++ txtB nm ++ [0]).map encU) (vs ++ txtB nm ++ [0]).length ?_
    refine apnT fun r10 h10 => ?_; repeat rcases h10 with ⟨_, h10⟩
    refine dcw [(r10, .arr 5 1 ((vs ++ txtB nm ++ [0]).map encU))] rfl Tryz.call137 (int_num r10 (vs ++ txtB nm ++ [0]) (by simp; omega) fn (sm_bd m3).1 (by have := (sm_bd m3).2; omega)) rfl argsleT stleT hbtT ?_
    rintro _ σ' ⟨r13, rfl, rfl⟩ h13
    have k13 := rest1T h13; repeat rcases k13 with ⟨_, k13⟩
    apply rd_sto; exact nflT
    refine sq70 ?_
    rw [show vs ++ txtB nm ++ [0] ++ numB fn = vs ++ exB ⟨nm, fn⟩ by unfold exB; simp]
    apply aend; exact resT
    · exact ⟨r13, rfl, rfl⟩
    · exact stleT
theorem wasm_putLimits (q : Nat) (vs : List Nat) (hvs : vs.length ≤ 10000000) (l : Li) (h0 : 0 ≤ l.mn) (h1 : l.mn ≤ 100000) (h2 : l.mx ≤ 100000) : SCall Tryz.prog 143 [.own q 0 vs.length, .agg (encLi l)] [(q, .arr 5 1 (vs.map encU))]
    (fun y σ => ∃ r, y = .own r 0 (vs ++ limB l).length ∧ σ = [(r, .arr 5 1 ((vs ++ limB l).map encU))]) := by
  obtain ⟨has, mn, mx⟩ := l
  dsimp only at h0 h1 h2
  have hu := uB_len 2 mn.toNat (by omega)
  refine scall_of (n := 23) (ks := [0, 1, 3, 4, 7]) Tryz.func143 rfl rfl (Nat.le_of_ble_eq_true rfl) ?_
  unfold encLi
  refine sq3 ?_
  apply bx; rfl; rfl; (exact zcT); rfl; refine freshT fun r3 h3 => ?_; repeat rcases h3 with ⟨_, h3⟩
  refine sq41 ?_
  refine sq13 ?_
  refine sw_cond rfl (fun g1 => ?_) (fun g1 => ?_)
  · refine ctlT ?_
    refine rgD [(0, true), (3, true), (4, true), (1, false), (2, false), (5, false), (6, true)] ?_
    refine sq72 ?_
    refine z97 ?_; refine freshT fun r9 h9 => ?_; repeat rcases h9 with ⟨_, h9⟩
    refine dapA rfl ((vs ++ [0]).map encU) (vs ++ [0]).length ?_
    refine apnT fun r10 h10 => ?_; repeat rcases h10 with ⟨_, h10⟩
    refine dcw [(r10, .arr 5 1 ((vs ++ [0]).map encU))] rfl Tryz.call137 (int_num r10 (vs ++ [0]) (by simp; omega) mn h0 (by omega)) rfl argsleT stleT hbtT ?_
    rintro _ σ' ⟨r13, rfl, rfl⟩ h13
    have k13 := rest1T h13; repeat rcases k13 with ⟨_, k13⟩
    apply rd_sto; exact nflT
    refine sq70 ?_
    rw [show vs ++ [0] ++ numB mn = vs ++ limB ⟨has, mn, mx⟩ by unfold limB; rw [if_pos g1]; simp]
    apply aend; exact resT
    · exact ⟨r13, rfl, rfl⟩
    · exact stleT
  refine ctlT ?_
  refine rgD [(0, true), (3, true), (4, true), (6, true), (7, true), (1, false), (2, false), (5, false), (8, false), (9, true)] ?_
  refine sq72 ?_
  refine sq22 ?_
  refine z97 ?_; refine freshT fun r15 h15 => ?_; repeat rcases h15 with ⟨_, h15⟩
  refine dapA rfl ((vs ++ [1]).map encU) (vs ++ [1]).length ?_
  refine apnT fun r16 h16 => ?_; repeat rcases h16 with ⟨_, h16⟩
  refine dcw [(r16, .arr 5 1 ((vs ++ [1]).map encU))] rfl Tryz.call137 (int_num r16 (vs ++ [1]) (by simp; omega) mn h0 (by omega)) rfl argsleT stleT hbtT ?_
  rintro _ σ' ⟨r19, rfl, rfl⟩ h19
  have k19 := rest1T h19; repeat rcases k19 with ⟨_, k19⟩
  apply rd_sto; exact nflT
  refine dcw [(r19, .arr 5 1 ((vs ++ [1] ++ numB mn).map encU))] rfl Tryz.call137 (int_num r19 (vs ++ [1] ++ numB mn) (by simp [numB]; omega) mx (by simp at g1; omega) (by omega)) rfl argsleT stleT hbtT ?_
  rintro _ σ' ⟨r22, rfl, rfl⟩ h22
  have k22 := rest1T h22; repeat rcases k22 with ⟨_, k22⟩
  apply rd_sto; exact nflT
  refine sq70 ?_
  rw [show vs ++ [1] ++ numB mn ++ numB mx = vs ++ limB ⟨has, mn, mx⟩ by unfold limB; rw [if_neg (by simp [g1])]; simp]
  apply aend; exact resT
  · exact ⟨r22, rfl, rfl⟩
  · exact stleT
theorem w_li (q : Nat) (vs : List Nat) (hvs : vs.length ≤ 9000000) (l : Li) (h0 : 0 ≤ l.mn) (h1 : l.mn ≤ 100000) (h2 : l.mx ≤ 100000) : SCall Tryz.prog 142 [.own q 0 vs.length, .agg (encLi l)] [(q, .arr 5 1 (vs.map encU))]
    (fun y σ => ∃ r, y = .own r 0 (vs ++ 112 :: limB l).length ∧ σ = [(r, .arr 5 1 ((vs ++ 112 :: limB l).map encU))]) := by
  refine scall_of (n := 10) (ks := [0, 1, 3, 4]) Tryz.func142 rfl rfl (Nat.le_of_ble_eq_true rfl) ?_
  refine sq3 ?_
  apply bx; rfl; rfl; (exact zcT); rfl; refine freshT fun r3 h3 => ?_; repeat rcases h3 with ⟨_, h3⟩
  refine sq2 ?_
  refine rgD [(0, true), (3, true), (1, false), (2, false), (4, false), (5, true)] ?_
  refine dlo rfl (lop_move (E rfl)) rfl ?_
  refine z96 ?_
  refine z97 ?_; refine freshT fun r6 h6 => ?_; repeat rcases h6 with ⟨_, h6⟩
  refine dapA rfl ((vs ++ [112]).map encU) (vs ++ [112]).length ?_
  refine apnT fun r7 h7 => ?_; repeat rcases h7 with ⟨_, h7⟩
  refine dcw [(r7, .arr 5 1 ((vs ++ [112]).map encU))] rfl Tryz.call143 (wasm_putLimits r7 (vs ++ [112]) (by simp; omega) l h0 h1 h2) rfl argsleT stleT hbtT ?_
  rintro _ σ' ⟨r9, rfl, rfl⟩ h9
  have k9 := rest1T h9; repeat rcases k9 with ⟨_, k9⟩
  apply rd_sto; exact nflT
  refine sq70 ?_
  rw [show vs ++ [112] ++ limB l = vs ++ 112 :: limB l by simp]
  apply aend; exact resT
  · exact ⟨r9, rfl, rfl⟩
  · exact stleT
theorem wasm_place (q : Nat) (vs : List Nat) (hvs : vs.length ≤ 10000000) (n : Int) (h : offN n = true) : SCall Tryz.prog 151 [.own q 0 vs.length, .int .i64 n] [(q, .arr 5 1 (vs.map encU))]
    (fun y σ => ∃ r, y = .own r 0 (vs ++ plcB n).length ∧ σ = [(r, .arr 5 1 ((vs ++ plcB n).map encU))]) := by
  have hr : -2147483648 ≤ n ∧ n ≤ 2147483647 := by unfold offN at h; simpa using h
  refine scall_of (n := 11) (ks := [0, 1, 4]) Tryz.func151 rfl rfl (Nat.le_of_ble_eq_true rfl) ?_
  refine sq62 ?_
  refine z1 ?_; refine freshT fun r6 h6 => ?_; repeat rcases h6 with ⟨_, h6⟩
  refine apA ((vs ++ [0]).map encU) (vs ++ [0]).length ?_
  refine apnT fun r7 h7 => ?_; repeat rcases h7 with ⟨_, h7⟩
  refine lo (lop_move (E rfl)) rfl ?_
  refine z93 ?_
  refine cw [(r7, .arr 5 1 ((vs ++ [0]).map encU))] Tryz.call146 (wasm_constant r7 (vs ++ [0]) (by simp; omega) 1 n (by unfold valN; simp; omega) (by omega)) rfl argsleT stleT ?_
  rintro _ σ' ⟨r10, rfl, rfl⟩ h10
  have k10 := rest1T h10; repeat rcases k10 with ⟨_, k10⟩
  apply rs_sto; exact nflT
  refine sq2 ?_
  rw [show vs ++ [0] ++ conB 1 n = vs ++ plcB n by unfold plcB; simp]
  apply aend; exact resT
  · exact ⟨r10, rfl, rfl⟩
  · exact stleT
theorem w_el (q : Nat) (vs : List Nat) (hvs : vs.length ≤ 9000000) (o : Int) (fs : List Int) (h : offN o = true) (h1 : fs.length ≤ 50) (h2 : ∀ n ∈ fs, smN_ n = true) (hc : (plcB o).length ≤ 300) : SCall Tryz.prog 150 [.own q 0 vs.length, .agg (encEl ⟨o, fs⟩)] [(q, .arr 5 1 (vs.map encU))]
    (fun y σ => ∃ r, y = .own r 0 (vs ++ elB ⟨o, fs⟩).length ∧ σ = [(r, .arr 5 1 ((vs ++ elB ⟨o, fs⟩).map encU))]) := by
  refine scall_of (n := 12) (ks := [0, 1, 3, 4]) Tryz.func150 rfl rfl (Nat.le_of_ble_eq_true rfl) ?_
  unfold encEl
  refine sq3 ?_
  apply bx; rfl; rfl; (exact zcT); rfl; refine freshT fun r3 h3 => ?_; repeat rcases h3 with ⟨_, h3⟩
  refine sq2 ?_
  refine rgD [(0, true), (1, true), (2, true), (4, true), (5, true), (3, false), (6, false), (7, true)] ?_
  refine sq72 ?_
  refine sq22 ?_
  refine dcw [(q, .arr 5 1 (vs.map encU))] rfl Tryz.call151 (wasm_place q vs (by omega) o h) rfl argsleT stleT hbtT ?_
  rintro _ σ' ⟨r8, rfl, rfl⟩ h8
  have k8 := rest1T h8; repeat rcases k8 with ⟨_, k8⟩
  apply rd_sto; exact nflT
  refine dcw [(r8, .arr 5 1 ((vs ++ plcB o).map encU))] rfl Tryz.call133 (vec_int puts_num (by decide) r8 (vs ++ plcB o) fs h2 (by omega) (by simp; omega)) rfl argsleT stleT hbtT ?_
  rintro _ σ' ⟨r11, rfl, rfl⟩ h11
  have k11 := rest1T h11; repeat rcases k11 with ⟨_, k11⟩
  apply rd_sto; exact nflT
  refine sq70 ?_
  rw [show vs ++ plcB o ++ vecB fs numB = vs ++ elB ⟨o, fs⟩ by unfold elB; simp]
  apply aend; exact resT
  · exact ⟨r11, rfl, rfl⟩
  · exact stleT
theorem w_da (q : Nat) (vs : List Nat) (hvs : vs.length ≤ 9000000) (o : Int) (bs : List Nat) (h : offN o = true) (h1 : bs.length ≤ 1000) (hc : (plcB o).length ≤ 300) : SCall Tryz.prog 155 [.own q 0 vs.length, .agg (encDa ⟨o, bs⟩)] [(q, .arr 5 1 (vs.map encU))]
    (fun y σ => ∃ r, y = .own r 0 (vs ++ daB ⟨o, bs⟩).length ∧ σ = [(r, .arr 5 1 ((vs ++ daB ⟨o, bs⟩).map encU))]) := by
  have hu := uB_len 1 bs.length (by omega)
  refine scall_of (n := 16) (ks := [0, 1, 3, 4]) Tryz.func155 rfl rfl (Nat.le_of_ble_eq_true rfl) ?_
  unfold encDa
  refine sq3 ?_
  apply bx; rfl; rfl; (exact zcT); rfl; refine freshT fun r3 h3 => ?_; repeat rcases h3 with ⟨_, h3⟩
  refine sq2 ?_
  refine rgD [(0, true), (1, true), (2, true), (4, true), (5, true), (6, true), (8, true), (9, true), (3, false), (7, false), (10, false), (11, true)] ?_
  refine sq72 ?_
  refine sq22 ?_
  refine z78 ?_
  refine sq22 ?_
  refine dcw [(q, .arr 5 1 (vs.map encU))] rfl Tryz.call151 (wasm_place q vs (by omega) o h) rfl argsleT stleT hbtT ?_
  rintro _ σ' ⟨r8, rfl, rfl⟩ h8
  have k8 := rest1T h8; repeat rcases k8 with ⟨_, k8⟩
  apply rd_sto; exact nflT
  refine dcw [(r8, .arr 5 1 ((vs ++ plcB o).map encU))] rfl Tryz.call137 (wasm_num r8 (vs ++ plcB o) (by simp; omega) bs.length (by omega)) rfl argsleT stleT hbtT ?_
  rintro _ σ' ⟨r12, rfl, rfl⟩ h12
  have k12 := rest1T h12; repeat rcases k12 with ⟨_, k12⟩
  apply rd_sto; exact nflT
  refine dapA rfl ((vs ++ plcB o ++ uB bs.length ++ bs).map encU) (vs ++ plcB o ++ uB bs.length ++ bs).length ?_
  refine apnT fun r15 h15 => ?_; repeat rcases h15 with ⟨_, h15⟩
  refine sq70 ?_
  rw [show vs ++ plcB o ++ uB bs.length ++ bs = vs ++ daB ⟨o, bs⟩ by unfold daB; simp]
  apply aend; exact resT
  · exact ⟨r15, rfl, rfl⟩
  · exact stleT
theorem wasm_one (l : Li) : SCall Tryz.prog 141 [.agg (encLi l)] [] (fun y σ => ∃ q, y = .own q 0 (oneL l).length ∧ σ = [(q, .arr 26 3 ((oneL l).map encLi))]) := by
  obtain ⟨has, mn, mx⟩ := l
  refine scall_of (n := 8) (ks := [0, 1, 2, 5]) Tryz.func141 rfl rfl (Nat.le_of_ble_eq_true rfl) ?_
  unfold encLi
  refine sq3 ?_
  apply bx; rfl; rfl; (exact zcT); rfl; refine freshT fun r1 h1 => ?_; repeat rcases h1 with ⟨_, h1⟩
  refine sq41 ?_
  refine sq48 ?_
  refine sw_cond rfl (fun g1 => ?_) (fun g1 => ?_)
  · obtain rfl : has = false := by simpa using g1
    refine sq3 ?_
    refine sq0 ?_
    refine an ?_
    refine sw_virt 2 26 3 (by decide) rfl (by decide) (freshT fun q2 hq2 => ?_); repeat rcases hq2 with ⟨_, hq2⟩
    refine ctlT ?_
    apply aend; exact resT
    · exact ⟨q2, rfl, rfl⟩
    · exact stleT
  obtain rfl : has = true := by simpa using g1
  refine sq3 ?_
  refine z99 ?_
  refine z1 ?_; refine freshT fun r7 h7 => ?_; repeat rcases h7 with ⟨_, h7⟩
  refine sq2 ?_
  apply aend; exact resT
  · exact ⟨r7, rfl, rfl⟩
  · exact stleT
theorem con_len {k n : Int} (hv : valN k n = true) (hn : -9223372036854775808 ≤ n ∧ n ≤ 9223372036854775807) : (conB k n).length ≤ 201 := by
  obtain ⟨ho, hm, -⟩ := co_may hv hn
  have := putN_len ho hm
  unfold conB; rw [List.length_append, List.length_singleton]; omega
theorem plc_len {n : Int} (h : offN n = true) : (plcB n).length ≤ 202 := by
  have hr : -2147483648 ≤ n ∧ n ≤ 2147483647 := by unfold offN at h; simpa using h
  have := con_len (k := 1) (n := n) (by unfold valN; simp; omega) (by omega)
  unfold plcB; simp; omega
theorem puts_im : Puts Tryz.prog 5 136 (fun x => .agg (encIm x)) imB (fun x => (nmN x.mod && nmN x.nm && smN_ x.ty) = true) 50 10000000 :=
  ⟨Tryz.call136, fun q vs x h hp hvs => by
    obtain ⟨a, b, n⟩ := x
    simp only [Bool.and_eq_true] at h
    obtain ⟨⟨h1, h2⟩, h3⟩ := h
    have l1 := (bytes_txt h1).2.2
    have l2 := (bytes_txt h2).2.2
    have l3 := nu_len h3
    exact ⟨by unfold imB; simp; omega, w_im q vs hp hvs a b n h1 h2 h3⟩⟩
theorem puts_ex : Puts Tryz.prog 5 148 (fun x => .agg (encEx x)) exB (fun x => (nmN x.nm && smN_ x.fn) = true) 50 10000000 :=
  ⟨Tryz.call148, fun q vs x h hp hvs => by
    obtain ⟨b, n⟩ := x
    simp only [Bool.and_eq_true] at h
    have l2 := (bytes_txt h.1).2.2
    have l3 := nu_len h.2
    exact ⟨by unfold exB; simp; omega, w_ex q vs hp hvs b n h.1 h.2⟩⟩
def okLi (l : Li) : Prop := 0 ≤ l.mn ∧ l.mn ≤ 100000 ∧ l.mx ≤ 100000
theorem lim_len {l : Li} (h : okLi l) : (limB l).length ≤ 7 := by
  have h1 := uB_len 2 l.mn.toNat (by have := h.2.1; omega)
  have h2 := uB_len 2 l.mx.toNat (by have := h.2.2; omega)
  unfold limB numB
  split
  · simp; omega
  · simp; omega
theorem puts_li : Puts Tryz.prog 5 143 (fun x => .agg (encLi x)) limB okLi 10 9000000 :=
  ⟨Tryz.call143, fun q vs x h _ hvs => ⟨by have := lim_len h; omega, wasm_putLimits q vs (by omega) x h.1 h.2.1 h.2.2⟩⟩
theorem puts_tb : Puts Tryz.prog 5 142 (fun x => .agg (encLi x)) (fun l => 112 :: limB l) okLi 10 9000000 :=
  ⟨Tryz.call142, fun q vs x h _ hvs => ⟨by have := lim_len h; simp; omega, w_li q vs (by omega) x h.1 h.2.1 h.2.2⟩⟩
theorem puts_el : Puts Tryz.prog 5 150 (fun x => .agg (encEl x)) elB (fun x => (offN x.off && allN x.fs 50 smN_) = true) 400 9000000 :=
  ⟨Tryz.call150, fun q vs x h _ hvs => by
    obtain ⟨o, fs⟩ := x
    simp only [Bool.and_eq_true] at h
    have h1 : fs.length ≤ 50 ∧ ∀ n ∈ fs, smN_ n = true := by have := h.2; unfold allN at this; simp at this; exact ⟨by omega, this.2⟩
    have l1 := plc_len h.1
    have l2 := vec_len (pt := numB) (l := fs) (c := 2) (fun x hx => nu_len (h1.2 x hx)) (by omega)
    exact ⟨by unfold elB; simp; omega, w_el q vs hvs o fs h.1 h1.1 h1.2 (by omega)⟩⟩
theorem puts_da : Puts Tryz.prog 5 155 (fun x => .agg (encDa x)) daB (fun x => (offN x.off && decide (x.bs.length ≤ 1000)) = true) 2000 9000000 :=
  ⟨Tryz.call155, fun q vs x h _ hvs => by
    obtain ⟨o, bs⟩ := x
    simp only [Bool.and_eq_true, decide_eq_true_eq] at h
    have l1 := plc_len h.1
    have l2 := uB_len 1 bs.length (by omega)
    exact ⟨by unfold daB; simp; omega, w_da q vs hvs o bs h.1 h.2 (by omega)⟩⟩
theorem set_last {l : List Nat} {a b : Nat} : ((l ++ [a]).map encU).set (((l ++ [a]).length : Int) - 1).toNat [.int .u8 (b : Int)] = (l ++ [b]).map encU := by
  rw [show (((l ++ [a]).length : Int) - 1).toNat = l.length by simp, List.map_append, List.map_append, List.set_append, if_neg (by simp)]
  simp [encU]
theorem at_last {l : List Nat} {a : Nat} : (l ++ [a])[(((l ++ [a]).length : Nat) - 1 : Int).toNat]? = some a := by
  rw [show (((l ++ [a]).length : Nat) - 1 : Int).toNat = l.length by simp]
  simp
theorem w_gl (q : Nat) (vs : List Nat) (hvs : vs.length ≤ 9000000) (mu : Bool) (k n : Int) (hv : valN k n = true) (hn : -9223372036854775808 ≤ n ∧ n ≤ 9223372036854775807) : SCall Tryz.prog 145 [.own q 0 vs.length, .agg (encGl ⟨mu, k, n⟩)] [(q, .arr 5 1 (vs.map encU))]
    (fun y σ => ∃ r, y = .own r 0 (vs ++ glB ⟨mu, k, n⟩).length ∧ σ = [(r, .arr 5 1 ((vs ++ glB ⟨mu, k, n⟩).map encU))]) := by
  have hkl := kB_len k
  refine scall_of (n := 23) (ks := [0, 1, 3, 4, 13]) Tryz.func145 rfl rfl (Nat.le_of_ble_eq_true rfl) ?_
  unfold encGl
  refine sq3 ?_
  apply bx; rfl; rfl; (exact zcT); rfl; refine freshT fun r3 h3 => ?_; repeat rcases h3 with ⟨_, h3⟩
  refine sq37 ?_
  refine z59 ?_
  refine sq11 ?_
  refine cw [(q, .arr 5 1 (vs.map encU))] Tryz.call134 (wasm_putKind q vs (by omega) k) rfl argsleT stleT ?_
  rintro _ σ' ⟨r9, rfl, rfl⟩ h9
  have k9 := rest1T h9; repeat rcases k9 with ⟨_, k9⟩
  apply rs_sto; exact nflT
  refine z1 ?_; refine freshT fun r10 h10 => ?_; repeat rcases h10 with ⟨_, h10⟩
  refine apA ((vs ++ kB k ++ [0]).map encU) (vs ++ kB k ++ [0]).length ?_
  refine apnT fun r11 h11 => ?_; repeat rcases h11 with ⟨_, h11⟩
  refine sq2 ?_
  have hl : (vs ++ kB k ++ [0]).length = vs.length + 2 := by simp [hkl]
  refine rgT ?_
  refine sq11 ?_
  refine sq4 ?_
  refine sw_cond rfl (fun g2 => ?_) (fun g2 => ?_)
  · obtain ⟨z, hz⟩ : ∃ z : Nat, z = 1 := ⟨_, rfl⟩
    have hat := at_last (l := vs ++ kB k) (a := 0)
    refine sq18 ?_
    refine z14 ?_
    refine z19 ?_
    refine z15 ?_
    refine z118 ?_
    refine sq4 ?_
    have hle : (vs ++ kB k ++ [0]).length = (vs ++ kB k ++ [1]).length := by simp
    have hz1 : vs ++ kB k ++ [1] = vs ++ kB k ++ [z] := by rw [hz]
    have hset := set_last (l := vs ++ kB k) (a := 0) (b := 1)
    rw [show (ofConst (.int .u8 1)) = AV.int .u8 ((1 : Nat) : Int) from rfl, hset, hle, hz1]
    refine sq1 ?_
    refine z59 ?_
    refine z99 ?_
    refine cw [(r11, .arr 5 1 ((vs ++ kB k ++ [z]).map encU))] Tryz.call146 (wasm_constant r11 (vs ++ kB k ++ [z]) (by simp; omega) k n hv hn) rfl argsleT stleT ?_
    rintro _ σ' ⟨r22, rfl, rfl⟩ h22
    have k22 := rest1T h22; repeat rcases k22 with ⟨_, k22⟩
    apply rs_sto; exact nflT
    refine sq2 ?_
    rw [show vs ++ kB k ++ [z] ++ conB k n = vs ++ glB ⟨mu, k, n⟩ by unfold glB; rw [hz, g2]; simp]
    apply aend; exact resT
    · exact ⟨r22, rfl, rfl⟩
    · exact stleT
  obtain ⟨z, hz⟩ : ∃ z : Nat, z = 0 := ⟨_, rfl⟩
  rw [show vs ++ kB k ++ [0] = vs ++ kB k ++ [z] by rw [hz]]
  refine sq7 ?_
  refine z59 ?_
  refine z99 ?_
  refine cw [(r11, .arr 5 1 ((vs ++ kB k ++ [z]).map encU))] Tryz.call146 (wasm_constant r11 (vs ++ kB k ++ [z]) (by simp; omega) k n hv hn) rfl argsleT stleT ?_
  rintro _ σ' ⟨r22, rfl, rfl⟩ h22
  have k22 := rest1T h22; repeat rcases k22 with ⟨_, k22⟩
  apply rs_sto; exact nflT
  refine sq2 ?_
  rw [show vs ++ kB k ++ [z] ++ conB k n = vs ++ glB ⟨mu, k, n⟩ by unfold glB; rw [hz, g2]; simp]
  apply aend; exact resT
  · exact ⟨r22, rfl, rfl⟩
  · exact stleT
theorem puts_gl : Puts Tryz.prog 5 145 (fun x => .agg (encGl x)) glB (fun g => valN g.kd g.n = true ∧ -9223372036854775808 ≤ g.n ∧ g.n ≤ 9223372036854775807) 300 9000000 :=
  ⟨Tryz.call145, fun q vs x h _ hvs => by
    obtain ⟨mu, k, n⟩ := x
    have l1 := con_len h.1 h.2
    have l2 := kB_len k
    exact ⟨by unfold glB; simp; dsimp only at l1; omega, w_gl q vs hvs mu k n h.1 h.2⟩⟩
end Go.Proofs.YthhlimmcncbopaaGreat
/-
  Bytes as modules: plain words, and the way there and back.
-/
namespace Go.Proofs.YthhlimmcncbopaaGreat
open Go.RowKit Go.ChangeShapes Go.WideShapes Go.ChangeAt Go.Deep
/-- a reader: what is left, is it bad -/
abbrev St := List Nat × Bool
def skN (s : St) (n : Int) (ok : Bool) : St := let bad := s.2 || !ok || decide ((s.1.length : Int) < n); (if bad then s.1 else s.1.drop n.toNat, bad)
def nuN (s : St) : Nat × St := let s' := skN s (getU s.1).2.1 ((getU s.1).2.2 == 0); (if s'.2 then 0 else (getU s.1).1, s')
def byN (s : St) : Nat × St := if s.2 || s.1.isEmpty then (0, (s.1, true)) else (s.1[0]!, (s.1.drop 1, false))
def roN (s : St) : List Nat × St := let r := nuN s; let s' := skN r.2 r.1 true; (if s'.2 then [] else r.2.1.take r.1, s')
/-- so many, one behind the other, until it is bad -/
def lsN {α : Type} (get : St → α × St) : Nat → St → List α × St
  | 0, s => ([], s)
  | n + 1, s => if s.2 then ([], s) else let r := get s; let t := lsN get n r.2; (r.1 :: t.1, t.2)
def liN {α : Type} (get : St → α × St) (s : St) : List α × St := let r := nuN s; lsN get r.1 r.2
def kiN (s : St) : Int × St := let r := byN s; if (r.1 == 127) = true then (1, r.2) else if (r.1 == 126) = true then (2, r.2) else (0, (r.2.1, true))
def coN (s : St) : (Int × Int) × St :=
  let g := getP s.1
  let s1 := skN s g.2.1 ((g.2.2 == 0) && (g.1.op == 65 || g.1.op == 66))
  let s2 := (byN s1).2
  (if (g.1.op == 66) = true then (2, g.1.a) else (1, g.1.a), s2)
def plN (s : St) : Int × St := let r := coN (byN s).2; (r.1.2, r.2)
def lmN (s : St) : Li × St :=
  let b := byN s
  let r := nuN b.2
  if (b.1 != 0) = true then let t := nuN r.2; (⟨true, r.1, t.1⟩, t.2) else (⟨true, r.1, -1⟩, r.2)
/-- locals: runs -/
def loN : Nat → St → List Int → List Int × St
  | 0, s, l => (l, s)
  | n + 1, s, l => if s.2 then (l, s) else
    let m := nuN s
    let k := kiN m.2
    if 32 < m.1 then ([], (k.2.1, true)) else loN n k.2 (l ++ List.replicate m.1 k.1)
def ruN (s : St) : List Int × St := let r := nuN s; loN r.1 r.2 []
def cdN (s : St) : Co × St :=
  let r := ruN (nuN s).2
  if r.2.2 then (⟨r.1, []⟩, r.2) else
    let g := getC r.2.1
    (⟨r.1, g.1⟩, skN r.2 g.2.1 (g.2.2 == 0))
def tyN (s : St) : FT × St := let p := liN kiN (byN s).2; let r := liN kiN p.2; (⟨p.1, r.1⟩, r.2)
def inN (s : St) : Int × St := let r := nuN s; (r.1, r.2)
def imN (s : St) : Im × St := let a := roN s; let b := roN a.2; let t := nuN (byN b.2).2; (⟨a.1, b.1, t.1⟩, t.2)
def glN (s : St) : Gl × St := let k := kiN s; let m := byN k.2; let c := coN m.2; (⟨m.1 != 0, c.1.1, c.1.2⟩, c.2)
def exN (s : St) : Ex × St := let a := roN s; let t := nuN (byN a.2).2; (⟨a.1, t.1⟩, t.2)
def tbN (before : Bool) (s : St) : Li × St := lmN (if before then (byN s).2 else s)
def ltN (before : Bool) (s : St) : Li × St := let r := liN (tbN before) s; (r.1.headD li0, r.2)
def eeN (s : St) : El × St := let o := plN s; let l := liN inN o.2; (⟨o.1, l.1⟩, l.2)
def ddN (s : St) : Da × St := let o := plN s; let l := roN o.2; (⟨o.1, l.1⟩, l.2)
def seN (no : Nat) (m : Md) (s : St) : Md × St :=
  if no = 1 then ({ m with ty := (liN tyN s).1 }, (liN tyN s).2)
  else if no = 2 then ({ m with im := (liN imN s).1 }, (liN imN s).2)
  else if no = 3 then ({ m with fn := (liN inN s).1 }, (liN inN s).2)
  else if no = 4 then ({ m with tb := (ltN true s).1 }, (ltN true s).2)
  else if no = 5 then ({ m with me := (ltN false s).1 }, (ltN false s).2)
  else if no = 6 then ({ m with gl := (liN glN s).1 }, (liN glN s).2)
  else if no = 7 then ({ m with ex := (liN exN s).1 }, (liN exN s).2)
  else if no = 9 then ({ m with el := (liN eeN s).1 }, (liN eeN s).2)
  else if no = 10 then ({ m with co := (liN cdN s).1 }, (liN cdN s).2)
  else if no = 11 then ({ m with da := (liN ddN s).1 }, (liN ddN s).2)
  else (m, (s.1, true))
/-- section by section -/
def dlN : Nat → Md → St → Md × St
  | 0, m, s => (m, s)
  | f + 1, m, s => if s.1.isEmpty || s.2 then (m, s) else
    let b := byN s
    let t := seN b.1 m (nuN b.2).2
    dlN f t.1 t.2
def prsN (b : List Nat) : Md × St := dlN (b.length + 1) md0 (skN (b, !decide (b.take 8 = headB)) 8 true)
def decM (b : List Nat) : Md × Int :=
  if 8000 < b.length then (md0, 4)
  else if (prsN b).2.2 = true then (md0, 1)
  else if mayM (prsN b).1 = true ∧ writB (prsN b).1 = b then ((prsN b).1, 0) else (md0, 1)
/-! ### there and back -/
/-- what is written is read, whatever stands behind -/
def Bck {α : Type} (get : St → α × St) (pt : α → List Nat) (ok : α → Prop) : Prop := ∀ x, ok x → ∀ r, get (pt x ++ r, false) = (x, (r, false))
theorem sk_at {p r : List Nat} {n : Int} (hn : n = (p.length : Int)) : skN (p ++ r, false) n true = (r, false) := by
  subst hn
  unfold skN
  have : decide ((((p ++ r, false) : St).1.length : Int) < (p.length : Int)) = false := by simp; omega
  simp only [this]
  simp
theorem nu_at {v : Nat} (hv : v < 4294967296) (r : List Nat) : nuN (uB v ++ r, false) = (v, (r, false)) := by
  unfold nuN
  dsimp only
  rw [getU_uB hv]
  dsimp only
  rw [show ((0 : Int) == 0) = true from rfl, sk_at rfl]
  rfl
theorem by_at (c : Nat) (r : List Nat) : byN (c :: r, false) = (c, (r, false)) := by
  unfold byN; simp
theorem ro_at {s : List Nat} (hs : s.length < 4294967296) (r : List Nat) : roN (uB s.length ++ s ++ r, false) = (s, (r, false)) := by
  unfold roN
  rw [List.append_assoc, nu_at hs]
  dsimp only
  rw [sk_at rfl]
  simp
theorem ls_at {α : Type} {get : St → α × St} {pt : α → List Nat} {ok : α → Prop} (h : Bck get pt ok) : ∀ {l : List α}, (∀ x ∈ l, ok x) → ∀ r, lsN get l.length (l.flatMap pt ++ r, false) = (l, (r, false))
  | [], _, r => rfl
  | x :: l, hl, r => by
    rw [List.length_cons, lsN, if_neg (by simp), List.flatMap_cons, List.append_assoc, h x (hl x List.mem_cons_self)]
    dsimp only
    rw [ls_at h (fun y hy => hl y (List.mem_cons_of_mem _ hy))]
theorem li_at {α : Type} {get : St → α × St} {pt : α → List Nat} {ok : α → Prop} (h : Bck get pt ok) {l : List α} (hl : ∀ x ∈ l, ok x) (hn : l.length < 4294967296) (r : List Nat) : liN get (vecB l pt ++ r, false) = (l, (r, false)) := by
  unfold liN vecB
  rw [List.append_assoc, nu_at hn]
  exact ls_at h hl r
theorem ki_at : Bck kiN kB (fun k => kdN k = true) := by
  intro k hk r
  have : k = 1 ∨ k = 2 := by
    unfold kdN at hk
    by_cases h : k = 1
    · exact .inl h
    · rw [if_neg (by simpa using h)] at hk; exact .inr (by simpa using hk)
  rcases this with rfl | rfl
  · show kiN (127 :: r, false) = _; unfold kiN; rw [by_at]; rfl
  · show kiN (126 :: r, false) = _; unfold kiN; rw [by_at]; rfl
theorem in_at : Bck inN numB (fun n => smN_ n = true) := by
  intro n hn r
  have h0 : 0 ≤ n ∧ n ≤ 1000 := by
    unfold smN_ at hn
    by_cases h : 0 ≤ n
    · rw [if_pos (by simpa using h)] at hn; exact ⟨h, by simpa using hn⟩
    · rw [if_neg (by simpa using h)] at hn; cases hn
  unfold inN numB
  rw [nu_at (by omega)]
  simp; omega
theorem nu_int {n : Int} (h0 : 0 ≤ n) (h1 : n < 4294967296) (r : List Nat) : nuN (numB n ++ r, false) = (n.toNat, (r, false)) := nu_at (by omega) r
theorem co_at {k n : Int} (h : valN k n = true) (hn : -9223372036854775808 ≤ n ∧ n ≤ 9223372036854775807) (r : List Nat) : coN (conB k n ++ r, false) = ((k, n), (r, false)) := by
  obtain ⟨ho, hm, hk⟩ := co_may h hn
  have key : ∀ op : Int, (⟨op, n, 0, []⟩ : Ins).Ok → mayN ⟨op, n, 0, []⟩ = true → (op = 65 ∨ op = 66) → coN (putN ⟨op, n, 0, []⟩ ++ [11] ++ r, false) = (if (op == 66) = true then (2, n) else (1, n), (r, false)) := by
    intro op ho hm hop
    unfold coN
    dsimp only
    rw [List.append_assoc, get_put ho hm]
    dsimp only
    rw [show (((0 : Int) == 0) && ((op == 65) || (op == 66))) = true by rcases hop with rfl | rfl <;> rfl, sk_at rfl]
    show (_, (byN (11 :: r, false)).2) = _
    rw [by_at]
  unfold conB
  rcases hk with rfl | rfl
  · exact key 65 ho hm (.inl rfl)
  · exact key 66 ho hm (.inr rfl)
theorem pl_at {n : Int} (h : offN n = true) (r : List Nat) : plN (plcB n ++ r, false) = (n, (r, false)) := by
  unfold offN at h
  simp only [Bool.and_eq_true, decide_eq_true_eq] at h
  unfold plN plcB
  rw [List.cons_append, by_at]
  dsimp only
  rw [co_at (by unfold valN; simp; omega) (by omega)]
theorem lm_at {l : Li} {a c : Int} (h : limN l a c = true) (hh : l.has = true) (ha : a ≤ 100000) (hc : c ≤ 100000) (r : List Nat) : lmN (limB l ++ r, false) = (l, (r, false)) := by
  obtain ⟨has, mn, mx⟩ := l
  dsimp only at hh
  subst hh
  unfold limN at h
  simp only [if_true, Bool.and_eq_true, decide_eq_true_eq] at h
  obtain ⟨⟨⟨h1, h2⟩, h3⟩, h4⟩ := h
  by_cases hx : mx < 0
  · rw [show limB ⟨true, mn, mx⟩ = 0 :: numB mn by unfold limB; rw [if_pos (by simpa using hx)]]
    unfold lmN
    rw [List.cons_append, by_at]
    dsimp only
    rw [nu_int h1 (by omega)]
    simp; omega
  · rw [show limB ⟨true, mn, mx⟩ = 1 :: (numB mn ++ numB mx) by unfold limB; rw [if_neg (by simpa using hx)]]
    unfold lmN
    rw [List.cons_append, by_at]
    dsimp only
    rw [List.append_assoc, nu_int h1 (by omega)]
    dsimp only
    rw [if_pos (by decide), nu_int (by omega) (by omega)]
    simp; omega
/-! ### locals -/
theorem runs_snoc (l : List Int) (k : Int) : runsN (l ++ [k]) = match (runsN l).getLast? with
  | some (x :: xs) => if x == k then (runsN l).dropLast ++ [(x :: xs) ++ [k]] else runsN l ++ [[k]]
  | _ => runsN l ++ [[k]] := by
  unfold runsN; rw [List.foldl_append]; rfl
/-- what holds of the runs -/
theorem runs_ok : ∀ (n : Nat) (l : List Int), l.length = n → (runsN l).flatten = l ∧ ∀ r ∈ runsN l, ∃ k m, r = List.replicate (m + 1) k ∧ k ∈ l ∧ m + 1 ≤ l.length
  | 0, l, h => by
    obtain rfl : l = [] := List.length_eq_zero_iff.1 h
    exact ⟨rfl, by simp [runsN]⟩
  | n + 1, l, h => by
    obtain ⟨t, k, rfl⟩ : ∃ t k, l = t ++ [k] := by
      have : l ≠ [] := by intro e; subst e; simp at h
      exact ⟨l.dropLast, l.getLast this, (List.dropLast_concat_getLast this).symm⟩
    obtain ⟨h1, h2⟩ := runs_ok n t (by simpa using h)
    rw [runs_snoc]
    have hnew : (runsN t ++ [[k]]).flatten = t ++ [k] ∧ ∀ r ∈ runsN t ++ [[k]], ∃ k' m, r = List.replicate (m + 1) k' ∧ k' ∈ t ++ [k] ∧ m + 1 ≤ (t ++ [k]).length := by
      refine ⟨by rw [List.flatten_append, h1]; rfl, fun r hr => ?_⟩
      rcases List.mem_append.1 hr with hr | hr
      · obtain ⟨k', m, e1, e2, e3⟩ := h2 r hr
        exact ⟨k', m, e1, List.mem_append_left _ e2, by simp; omega⟩
      · exact ⟨k, 0, by simpa using hr, by simp, by simp⟩
    split
    · next x xs hl =>
      split
      · next hx =>
        obtain rfl : x = k := by simpa using hx
        have hne : runsN t ≠ [] := by intro e; rw [e] at hl; cases hl
        have hd : runsN t = (runsN t).dropLast ++ [x :: xs] := by
          have := List.dropLast_concat_getLast hne
          rw [List.getLast?_eq_some_getLast hne] at hl
          rw [Option.some.inj hl] at this
          exact this.symm
        obtain ⟨k', m, e1, e2, e3⟩ := h2 (x :: xs) (by rw [hd]; simp)
        obtain rfl : x = k' := by rw [List.replicate_succ] at e1; exact (List.cons.inj e1).1
        refine ⟨?_, fun r hr => ?_⟩
        · rw [List.flatten_append]
          conv => rhs; rw [← h1, hd]
          simp
        · rcases List.mem_append.1 hr with hr | hr
          · obtain ⟨k', m, e1, e2, e3⟩ := h2 r (List.dropLast_sublist _ |>.subset hr)
            exact ⟨k', m, e1, List.mem_append_left _ e2, by simp; omega⟩
          · refine ⟨x, m + 1, ?_, by simp, by simp; omega⟩
            rw [show r = x :: xs ++ [x] by simpa using hr, e1]
            exact List.replicate_succ'.symm
      · exact hnew
    · exact hnew
theorem lo_at {l : List Int} (hk : ∀ k ∈ l, kdN k = true) : ∀ {rs : List (List Int)}, (∀ r ∈ rs, ∃ k m, r = List.replicate (m + 1) k ∧ k ∈ l ∧ m + 1 ≤ 32) → ∀ (acc : List Int) (t : List Nat), loN rs.length (rs.flatMap runB ++ t, false) acc = (acc ++ rs.flatten, (t, false))
  | [], _, acc, t => by simp [loN]
  | r :: rs, h, acc, t => by
    obtain ⟨k, m, rfl, hkl, hm⟩ := h r List.mem_cons_self
    rw [List.length_cons, loN, if_neg (by simp), List.flatMap_cons, List.append_assoc]
    have h1 : runB (List.replicate (m + 1) k) = numB ((m + 1 : Nat) : Int) ++ kB k := by unfold runB; rw [List.length_replicate, List.replicate_succ]; rfl
    rw [h1, List.append_assoc, nu_int (by omega) (by omega)]
    dsimp only
    rw [ki_at k (hk k hkl)]
    dsimp only
    rw [Int.toNat_natCast, if_neg (by omega), lo_at hk (fun r hr => h r (List.mem_cons_of_mem _ hr))]
    simp
theorem ru_at {l : List Int} (hk : ∀ k ∈ l, kdN k = true) (hl : l.length ≤ 32) (t : List Nat) : ruN (vecB (runsN l) runB ++ t, false) = (l, (t, false)) := by
  obtain ⟨h1, h2⟩ := runs_ok _ l rfl
  have hr : ∀ (rs : List (List Int)), (∀ r ∈ rs, ∃ k m, r = List.replicate (m + 1) k ∧ k ∈ l ∧ m + 1 ≤ l.length) → rs.length ≤ rs.flatten.length := by
    intro rs
    induction rs with
    | nil => simp
    | cons r rs ih =>
      intro h
      obtain ⟨k, m, rfl, -, -⟩ := h r List.mem_cons_self
      have := ih fun r hr => h r (List.mem_cons_of_mem _ hr)
      simp at this ⊢; omega
  have hn := hr _ h2
  rw [h1] at hn
  unfold ruN vecB
  rw [List.append_assoc, nu_at (by omega)]
  dsimp only
  rw [lo_at hk (fun r hr => by obtain ⟨k, m, a, b, c⟩ := h2 r hr; exact ⟨k, m, a, b, by omega⟩), h1]
  rfl
/-! ### the parts -/
theorem all_of {α : Type} {l : List α} {most : Int} {p : α → Bool} (h : allN l most p = true) : (l.length : Int) ≤ most ∧ ∀ x ∈ l, p x = true := by
  unfold allN at h
  simpa using h
def OkC (c : Co) : Prop := codN c = true ∧ (∀ x ∈ c.bd, x.Ok) ∧ (vecB (runsN c.ls) runB ++ putL c.bd).length < 4294967296
theorem cd_at : Bck cdN codB OkC := by
  rintro ⟨ls, bd⟩ ⟨h, hO, hlen⟩ t
  unfold codN at h
  simp only [Bool.and_eq_true] at h
  obtain ⟨⟨h1, h2⟩, h3⟩ := h
  obtain ⟨k1, k2⟩ := all_of h2
  obtain ⟨k3, k4⟩ := all_of h3
  have hm : ∀ x ∈ bd, x.Ok ∧ mayN x = true := fun x hx => ⟨hO x hx, k4 x hx⟩
  unfold cdN codB
  dsimp only
  rw [List.append_assoc, nu_at hlen]
  dsimp only
  rw [List.append_assoc, ru_at k2 (by omega)]
  dsimp only
  rw [if_neg (by simp), getC_back hm h1]
  dsimp only
  rw [show ((0 : Int) == 0) = true from rfl, sk_at rfl]
theorem ty_at : Bck tyN ftB (fun t => (allN t.pr 32 kdN && allN t.rs 1 kdN) = true) := by
  rintro ⟨pr, rs⟩ h t
  simp only [Bool.and_eq_true] at h
  obtain ⟨k1, k2⟩ := all_of h.1
  obtain ⟨k3, k4⟩ := all_of h.2
  unfold tyN ftB
  rw [List.cons_append, by_at]
  dsimp only
  rw [List.append_assoc, li_at ki_at k2 (by omega)]
  dsimp only
  rw [li_at ki_at k4 (by omega)]
theorem nm_len {s : List Nat} (h : nmN s = true) : s.length ≤ 16 := by
  unfold nmN at h
  split at h
  · simp only [Bool.and_eq_true, decide_eq_true_eq] at h; exact h.1
  · cases h
theorem sm_rng {n : Int} (h : smN_ n = true) : 0 ≤ n ∧ n ≤ 1000 := by
  unfold smN_ at h
  by_cases h0 : 0 ≤ n
  · rw [if_pos (by simpa using h0)] at h; exact ⟨h0, by simpa using h⟩
  · rw [if_neg (by simpa using h0)] at h; cases h
theorem tx_at {s : List Nat} (h : nmN s = true) (t : List Nat) : roN (txtB s ++ t, false) = (s, (t, false)) := ro_at (by have := nm_len h; omega) t
theorem im_at : Bck imN imB (fun x => (nmN x.mod && nmN x.nm && smN_ x.ty) = true) := by
  rintro ⟨a, b, n⟩ h t
  simp only [Bool.and_eq_true] at h
  obtain ⟨⟨h1, h2⟩, h3⟩ := h
  have h3 := sm_rng h3
  unfold imN imB
  dsimp only
  rw [List.append_assoc, List.append_assoc, List.append_assoc, tx_at h1]
  dsimp only
  rw [tx_at h2]
  dsimp only
  rw [List.cons_append, by_at]
  dsimp only [List.nil_append]
  rw [nu_int h3.1 (by omega)]
  simp; omega
theorem ex_at : Bck exN exB (fun x => (nmN x.nm && smN_ x.fn) = true) := by
  rintro ⟨a, n⟩ h t
  simp only [Bool.and_eq_true] at h
  have h3 := sm_rng h.2
  unfold exN exB
  dsimp only
  rw [List.append_assoc, List.append_assoc, tx_at h.1]
  dsimp only
  rw [List.cons_append, by_at]
  dsimp only [List.nil_append]
  rw [nu_int h3.1 (by omega)]
  simp; omega
theorem kd_of_val {k n : Int} (h : valN k n = true) : kdN k = true := by
  unfold valN at h
  simp only [Bool.or_eq_true, Bool.and_eq_true, beq_iff_eq, decide_eq_true_eq] at h
  rcases h with ⟨⟨rfl, -⟩, -⟩ | rfl <;> rfl
theorem gl_at : Bck glN glB (fun g => valN g.kd g.n = true ∧ -9223372036854775808 ≤ g.n ∧ g.n ≤ 9223372036854775807) := by
  rintro ⟨mu, k, n⟩ ⟨h, hn⟩ t
  dsimp only at h hn
  unfold glN glB
  dsimp only
  rw [List.append_assoc, List.append_assoc, ki_at k (kd_of_val h)]
  dsimp only
  rw [List.cons_append, by_at]
  dsimp only [List.nil_append]
  rw [co_at h hn]
  cases mu <;> rfl
theorem ee_at : Bck eeN elB (fun x => (offN x.off && allN x.fs 50 smN_) = true) := by
  rintro ⟨o, fs⟩ h t
  simp only [Bool.and_eq_true] at h
  obtain ⟨k1, k2⟩ := all_of h.2
  unfold eeN elB
  dsimp only
  rw [List.append_assoc, pl_at h.1]
  dsimp only
  rw [li_at in_at k2 (by omega)]
theorem dd_at : Bck ddN daB (fun x => (offN x.off && decide (x.bs.length ≤ 1000)) = true) := by
  rintro ⟨o, bs⟩ h t
  simp only [Bool.and_eq_true, decide_eq_true_eq] at h
  unfold ddN daB
  dsimp only
  rw [List.append_assoc, List.append_assoc, pl_at h.1]
  dsimp only
  rw [← List.append_assoc, ro_at (by omega)]
/-! ### nothing comes back -/
def NI {α : Type} (get : St → α × St) : Prop := ∀ s, (get s).2.1.length ≤ s.1.length
theorem sk_ni (s : St) (n : Int) (ok : Bool) : (skN s n ok).1.length ≤ s.1.length := by
  unfold skN; dsimp only; split
  · exact Nat.le_refl _
  · simp
theorem nu_ni : NI nuN := fun s => by unfold nuN; exact sk_ni _ _ _
theorem by_ni : NI byN := fun s => by
  unfold byN; split
  · exact Nat.le_refl _
  · simp
theorem by_lt (s : St) (h : s.1 ≠ []) (hb : s.2 = false) : (byN s).2.1.length < s.1.length := by
  obtain ⟨l, b⟩ := s
  dsimp only at h hb
  subst hb
  cases l with
  | nil => exact absurd rfl h
  | cons c l => rw [by_at]; simp
theorem ro_ni : NI roN := fun s => by unfold roN; exact Nat.le_trans (sk_ni _ _ _) (nu_ni s)
theorem ls_ni {α : Type} {get : St → α × St} (h : NI get) : ∀ n s, (lsN get n s).2.1.length ≤ s.1.length
  | 0, s => Nat.le_refl _
  | n + 1, s => by
    rw [lsN]; split
    · exact Nat.le_refl _
    · exact Nat.le_trans (ls_ni h n _) (h s)
theorem li_ni {α : Type} {get : St → α × St} (h : NI get) : NI (liN get) := fun s => Nat.le_trans (ls_ni h _ _) (nu_ni s)
theorem ki_ni : NI kiN := fun s => by
  unfold kiN; dsimp only
  split
  · exact by_ni s
  · split
    · exact by_ni s
    · exact by_ni s
theorem co_ni : NI coN := fun s => by unfold coN; exact Nat.le_trans (by_ni _) (sk_ni _ _ _)
theorem pl_ni : NI plN := fun s => by unfold plN; exact Nat.le_trans (co_ni _) (by_ni s)
theorem lm_ni : NI lmN := fun s => by
  unfold lmN; dsimp only; split
  · exact Nat.le_trans (nu_ni _) (Nat.le_trans (nu_ni _) (by_ni s))
  · exact Nat.le_trans (nu_ni _) (by_ni s)
theorem lo_ni : ∀ n s l, (loN n s l).2.1.length ≤ s.1.length
  | 0, s, l => Nat.le_refl _
  | n + 1, s, l => by
    rw [loN]; split
    · exact Nat.le_refl _
    · dsimp only; split
      · exact Nat.le_trans (ki_ni _) (nu_ni s)
      · exact Nat.le_trans (lo_ni n _ _) (Nat.le_trans (ki_ni _) (nu_ni s))
theorem ru_ni : NI ruN := fun s => by unfold ruN; exact Nat.le_trans (lo_ni _ _ _) (nu_ni s)
theorem cd_ni : NI cdN := fun s => by
  unfold cdN; dsimp only; split
  · exact Nat.le_trans (ru_ni _) (nu_ni s)
  · exact Nat.le_trans (sk_ni _ _ _) (Nat.le_trans (ru_ni _) (nu_ni s))
theorem ty_ni : NI tyN := fun s => by unfold tyN; exact Nat.le_trans (li_ni ki_ni _) (Nat.le_trans (li_ni ki_ni _) (by_ni s))
theorem in_ni : NI inN := fun s => nu_ni s
theorem im_ni : NI imN := fun s => by unfold imN; exact Nat.le_trans (nu_ni _) (Nat.le_trans (by_ni _) (Nat.le_trans (ro_ni _) (ro_ni s)))
theorem gl_ni : NI glN := fun s => by unfold glN; exact Nat.le_trans (co_ni _) (Nat.le_trans (by_ni _) (ki_ni s))
theorem ex_ni : NI exN := fun s => by unfold exN; exact Nat.le_trans (nu_ni _) (Nat.le_trans (by_ni _) (ro_ni s))
theorem tb_ni (b : Bool) : NI (tbN b) := fun s => by
  unfold tbN; split
  · exact Nat.le_trans (lm_ni _) (by_ni s)
  · exact lm_ni s
theorem lt_ni (b : Bool) : NI (ltN b) := fun s => li_ni (tb_ni b) s
theorem ee_ni : NI eeN := fun s => by unfold eeN; exact Nat.le_trans (li_ni in_ni _) (pl_ni s)
theorem dd_ni : NI ddN := fun s => by unfold ddN; exact Nat.le_trans (ro_ni _) (pl_ni s)
theorem se_ni (no : Nat) (m : Md) (s : St) : (seN no m s).2.1.length ≤ s.1.length := by
  unfold seN
  repeat' split
  · exact li_ni ty_ni s
  · exact li_ni im_ni s
  · exact li_ni in_ni s
  · exact lt_ni true s
  · exact lt_ni false s
  · exact li_ni gl_ni s
  · exact li_ni ex_ni s
  · exact li_ni ee_ni s
  · exact li_ni cd_ni s
  · exact li_ni dd_ni s
  · exact Nat.le_refl _
theorem dl_fuel : ∀ (f f' : Nat) (m : Md) (s : St), s.1.length < f → s.1.length < f' → dlN f m s = dlN f' m s
  | 0, _, _, s, h, _ => absurd h (Nat.not_lt_zero _)
  | _ + 1, 0, _, s, _, h => absurd h (Nat.not_lt_zero _)
  | f + 1, f' + 1, m, s, h, h' => by
    rw [dlN, dlN]
    split
    · rfl
    · next hc =>
      simp only [Bool.or_eq_true, not_or, Bool.not_eq_true] at hc
      have h1 := by_lt s (by intro e; rw [e] at hc; simp at hc) hc.2
      have h2 := nu_ni (byN s).2
      have h3 := se_ni (byN s).1 m (nuN (byN s).2).2
      exact dl_fuel f f' _ _ (by omega) (by omega)
def DN (m : Md) (s : St) : Md × St := dlN (s.1.length + 1) m s
theorem dn_end (m : Md) : DN m ([], false) = (m, ([], false)) := rfl
theorem dn_sec {α : Type} {no : Nat} {l : List α} {pt : α → List Nat} {m m' : Md} {r : List Nat} (h0 : l = [] → m' = m) (hv : (vecB l pt).length < 4294967296)
    (hs : seN no m (vecB l pt ++ r, false) = (m', (r, false))) : DN m (secB no l pt ++ r, false) = DN m' (r, false) := by
  unfold secB
  by_cases hl : l = []
  · subst hl
    rw [h0 rfl]; rfl
  · rw [if_neg (by simpa using hl)]
    unfold DN
    rw [dlN, if_neg (by simp)]
    dsimp only
    rw [List.cons_append, by_at]
    dsimp only
    rw [List.append_assoc, nu_at hv]
    dsimp only
    rw [hs]
    dsimp only
    exact dl_fuel _ _ _ _ (by simp; omega) (by simp)
theorem flat_mem {α : Type} {pt : α → List Nat} : ∀ {l : List α} {x : α}, x ∈ l → (pt x).length ≤ (l.flatMap pt).length
  | y :: l, x, h => by
    rw [List.flatMap_cons, List.length_append]
    rcases List.mem_cons.1 h with rfl | h
    · omega
    · have := flat_mem (pt := pt) h; omega
theorem sec_le {α : Type} {no : Nat} {l : List α} {pt : α → List Nat} : (l ≠ [] → (vecB l pt).length ≤ (secB no l pt).length) := by
  intro h
  unfold secB; rw [if_neg (by simpa using h)]; simp; omega
/-- a module's numbers are numbers -/
def Md.Ok (m : Md) : Prop := (∀ c ∈ m.co, ∀ x ∈ c.bd, x.Ok) ∧ ∀ g ∈ m.gl, -9223372036854775808 ≤ g.n ∧ g.n ≤ 9223372036854775807
theorem vec_nil {α : Type} {l : List α} {pt : α → List Nat} (h : l = []) : (vecB l pt).length < 4294967296 := by subst h; unfold vecB; rw [List.length_nil, uB_lo (by omega)]; simp
theorem vec_le {α : Type} {no : Nat} {l : List α} {pt : α → List Nat} (h : (secB no l pt).length ≤ 8000) : (vecB l pt).length < 4294967296 := by
  by_cases hl : l = []
  · exact vec_nil hl
  · have := sec_le (no := no) (pt := pt) hl; omega
theorem li_off {l : Li} {a c : Int} (h : limN l a c = true) (hh : l.has = false) : l = li0 := by
  obtain ⟨has, mn, mx⟩ := l
  dsimp only at hh
  subst hh
  unfold limN at h
  simp at h
  obtain ⟨rfl, rfl⟩ := h
  rfl
theorem lt_at {l : Li} {a c : Int} {pt : Li → List Nat} (before : Bool) (hpt : pt = fun l => if before then 112 :: limB l else limB l) (h : limN l a c = true) (ha : a ≤ 100000) (hc : c ≤ 100000) (r : List Nat) : ltN before (vecB (oneL l) pt ++ r, false) = (l, (r, false)) := by
  subst hpt
  unfold ltN oneL
  cases hh : l.has with
  | false =>
    rw [if_neg (by decide), show vecB ([] : List Li) (fun l => if before = true then 112 :: limB l else limB l) = uB 0 by unfold vecB; simp]
    unfold liN
    rw [nu_at (by decide), li_off h hh]
    rfl
  | true =>
    have hb : Bck (tbN before) (fun l => if before then 112 :: limB l else limB l) (fun l => limN l a c = true ∧ l.has = true) := by
      rintro x ⟨h1, h2⟩ t
      unfold tbN
      cases before
      · exact lm_at h1 h2 ha hc t
      · show lmN (byN (112 :: (limB x ++ t), false)).2 = _
        rw [by_at]; exact lm_at h1 h2 ha hc t
    rw [if_pos rfl, li_at hb (by simp; exact ⟨h, hh⟩) (by simp)]
    rfl
theorem prs_back {m : Md} (h : mayM m = true) (hO : m.Ok) : prsN (writB m) = (m, ([], false)) := by
  obtain ⟨ty, im, fn, tb, me, gl, ex, el, co, da⟩ := m
  unfold mayM at h
  simp only [Bool.and_eq_true, decide_eq_true_eq] at h
  obtain ⟨⟨⟨⟨⟨-, hco⟩, hls⟩, htb⟩, hme⟩, hw⟩ := h
  unfold listsN at hls
  simp only [Bool.and_eq_true] at hls
  obtain ⟨⟨⟨⟨⟨⟨hty, him⟩, hfn⟩, hgl⟩, hex⟩, hel⟩, hda⟩ := hls
  obtain ⟨hO1, hO2⟩ := hO
  dsimp only at *
  unfold writB at hw
  dsimp only at hw
  simp only [List.length_append] at hw
  unfold prsN
  have hbd : skN (writB ⟨ty, im, fn, tb, me, gl, ex, el, co, da⟩, !decide ((writB ⟨ty, im, fn, tb, me, gl, ex, el, co, da⟩).take 8 = headB)) 8 true = (secB 1 ty ftB ++ (secB 2 im imB ++ (secB 3 fn numB ++ (secB 4 (oneL tb) (fun l => 112 :: limB l) ++ (secB 5 (oneL me) limB ++ (secB 6 gl glB ++ (secB 7 ex exB ++ (secB 9 el elB ++ (secB 10 co codB ++ (secB 11 da daB ++ []))))))))), false) := by
    have hsp : writB ⟨ty, im, fn, tb, me, gl, ex, el, co, da⟩ = headB ++ (secB 1 ty ftB ++ (secB 2 im imB ++ (secB 3 fn numB ++ (secB 4 (oneL tb) (fun l => 112 :: limB l) ++ (secB 5 (oneL me) limB ++ (secB 6 gl glB ++ (secB 7 ex exB ++ (secB 9 el elB ++ (secB 10 co codB ++ (secB 11 da daB ++ [])))))))))) := by
      unfold writB; simp only [List.append_assoc, List.append_nil]
    rw [hsp, show (headB ++ _).take 8 = headB from List.take_left' rfl, decide_eq_true rfl]
    exact sk_at rfl
  rw [hbd]
  have hfuel : ∀ (s : St) (m : Md), s.1.length ≤ (writB ⟨ty, im, fn, tb, me, gl, ex, el, co, da⟩).length → dlN ((writB ⟨ty, im, fn, tb, me, gl, ex, el, co, da⟩).length + 1) m s = DN m s := fun s m hs => dl_fuel _ _ _ _ (by omega) (by omega)
  rw [hfuel _ _ (by unfold writB; simp only [List.length_append, List.length_nil]; omega)]
  have hoc : ∀ c ∈ co, OkC c := fun c hc => ⟨(all_of hco).2 c hc, hO1 c hc, by
    have h1 := flat_mem (pt := codB) hc
    have h2 : (vecB co codB).length ≤ (secB 10 co codB).length := sec_le (by intro e; rw [e] at hc; cases hc)
    unfold vecB at h2
    have h3 : (vecB (runsN c.ls) runB ++ putL c.bd).length ≤ (codB c).length := by unfold codB; simp
    rw [List.length_append] at h2
    omega⟩
  rw [dn_sec (m' := ⟨ty, [], [], li0, li0, [], [], [], [], []⟩) (fun e => by rw [e]; rfl) (vec_le (no := 1) (by omega)) (by unfold seN; rw [if_pos rfl, li_at ty_at (all_of hty).2 (by have := (all_of hty).1; omega)]; rfl)]
  rw [dn_sec (m' := ⟨ty, im, [], li0, li0, [], [], [], [], []⟩) (fun e => by rw [e]) (vec_le (no := 2) (by omega)) (by unfold seN; rw [if_neg (by decide), if_pos rfl, li_at im_at (all_of him).2 (by have := (all_of him).1; omega)])]
  rw [dn_sec (m' := ⟨ty, im, fn, li0, li0, [], [], [], [], []⟩) (fun e => by rw [e]) (vec_le (no := 3) (by omega)) (by unfold seN; rw [if_neg (by decide), if_neg (by decide), if_pos rfl, li_at in_at (all_of hfn).2 (by have := (all_of hfn).1; omega)])]
  have e4 : oneL tb = [] → tb = li0 := fun e => li_off htb (by unfold oneL at e; cases hh : tb.has; rfl; rw [hh] at e; cases e)
  have e5 : oneL me = [] → me = li0 := fun e => li_off hme (by unfold oneL at e; cases hh : me.has; rfl; rw [hh] at e; cases e)
  rw [dn_sec (m' := ⟨ty, im, fn, tb, li0, [], [], [], [], []⟩) (fun e => by rw [e4 e]) (vec_le (no := 4) (by omega)) (by unfold seN; rw [if_neg (by decide), if_neg (by decide), if_neg (by decide), if_pos rfl, lt_at (pt := fun l => 112 :: limB l) true rfl htb (by decide) (by decide)])]
  rw [dn_sec (m' := ⟨ty, im, fn, tb, me, [], [], [], [], []⟩) (fun e => by rw [e5 e]) (vec_le (no := 5) (by omega)) (by unfold seN; rw [if_neg (by decide), if_neg (by decide), if_neg (by decide), if_neg (by decide), if_pos rfl, lt_at (pt := limB) false rfl hme (by decide) (by decide)])]
  rw [dn_sec (m' := ⟨ty, im, fn, tb, me, gl, [], [], [], []⟩) (fun e => by rw [e]) (vec_le (no := 6) (by omega)) (by unfold seN; rw [if_neg (by decide), if_neg (by decide), if_neg (by decide), if_neg (by decide), if_neg (by decide), if_pos rfl, li_at gl_at (fun g hg => ⟨(all_of hgl).2 g hg, hO2 g hg⟩) (by have := (all_of hgl).1; omega)])]
  rw [dn_sec (m' := ⟨ty, im, fn, tb, me, gl, ex, [], [], []⟩) (fun e => by rw [e]) (vec_le (no := 7) (by omega)) (by unfold seN; rw [if_neg (by decide), if_neg (by decide), if_neg (by decide), if_neg (by decide), if_neg (by decide), if_neg (by decide), if_pos rfl, li_at ex_at (all_of hex).2 (by have := (all_of hex).1; omega)])]
  rw [dn_sec (m' := ⟨ty, im, fn, tb, me, gl, ex, el, [], []⟩) (fun e => by rw [e]) (vec_le (no := 9) (by omega)) (by unfold seN; rw [if_neg (by decide), if_neg (by decide), if_neg (by decide), if_neg (by decide), if_neg (by decide), if_neg (by decide), if_neg (by decide), if_pos rfl, li_at ee_at (all_of hel).2 (by have := (all_of hel).1; omega)])]
  rw [dn_sec (m' := ⟨ty, im, fn, tb, me, gl, ex, el, co, []⟩) (fun e => by rw [e]) (vec_le (no := 10) (by omega)) (by unfold seN; rw [if_neg (by decide), if_neg (by decide), if_neg (by decide), if_neg (by decide), if_neg (by decide), if_neg (by decide), if_neg (by decide), if_neg (by decide), if_pos rfl, li_at cd_at hoc (by have := (all_of hco).1; omega)])]
  rw [dn_sec (m' := ⟨ty, im, fn, tb, me, gl, ex, el, co, da⟩) (fun e => by rw [e]) (vec_le (no := 11) (by omega)) (by unfold seN; rw [if_neg (by decide), if_neg (by decide), if_neg (by decide), if_neg (by decide), if_neg (by decide), if_neg (by decide), if_neg (by decide), if_neg (by decide), if_neg (by decide), if_pos rfl, li_at dd_at (all_of hda).2 (by have := (all_of hda).1; omega)])]
  exact dn_end _
/-- what may be is read as it was written -/
theorem dec_back {m : Md} (h : mayM m = true) (hO : m.Ok) : decM (writB m) = (m, 0) := by
  have h1 := prs_back h hO
  have h2 : (writB m).length ≤ 8000 := by
    unfold mayM at h
    simp only [Bool.and_eq_true, decide_eq_true_eq] at h
    exact h.2
  unfold decM
  rw [if_neg (by omega), h1, if_neg (by simp), if_pos ⟨h, rfl⟩]
end Go.Proofs.YthhlimmcncbopaaGreat
/-
  A code is written: its locals' runs, its body.
-/
namespace Go.Proofs.YthhlimmcncbopaaGreat
open Go.RowKit Go.ChangeShapes Go.WideShapes Go.ChangeAt Go.Deep
attribute [local irreducible] SW RS RD AThen ABlock
theorem runs_same {l : List Int} {j : Nat} {x : Int} {init : List (List Int)} {m : Nat} (h : runsN (l.take j) = init ++ [List.replicate (m + 1) x]) (hx : l[j]? = some x) : runsN (l.take (j + 1)) = init ++ [List.replicate (m + 1) x ++ [x]] := by
  rw [List.take_add_one, hx]
  show runsN (l.take j ++ [x]) = _
  rw [runs_snoc, h, List.getLast?_append]
  simp [List.replicate_succ]
theorem runs_new {l : List Int} {j : Nat} {x k : Int} {init : List (List Int)} {m : Nat} (h : runsN (l.take j) = init ++ [List.replicate (m + 1) k]) (hx : l[j]? = some x) (hk : k ≠ x) : runsN (l.take (j + 1)) = init ++ [List.replicate (m + 1) k] ++ [[x]] := by
  rw [List.take_add_one, hx]
  show runsN (l.take j ++ [x]) = _
  rw [runs_snoc, h, List.getLast?_append]
  simp [List.replicate_succ, hk]
theorem runs_one {l : List Int} {x : Int} (hx : l[0]? = some x) : runsN (l.take 1) = [[x]] := by
  rw [List.take_add_one, hx]; rfl
theorem runB_len {r : List Int} (h : r.length ≤ 1000) : (runB r).length ≤ 3 := by
  have := uB_len 1 r.length (by omega)
  unfold runB numB
  rw [List.length_append, kB_len, Int.toNat_natCast]; omega
theorem w_run (q : Nat) (vs : List Nat) (hvs : vs.length ≤ 10000000) (r : List Int) (h1 : 0 < r.length) (h2 : r.length ≤ 1000) : SCall Tryz.prog 212 [.own q 0 vs.length, .ro 1 (r.map encI) .any] [(q, .arr 5 1 (vs.map encU))]
    (fun y σ => ∃ p, y = .own p 0 (vs ++ runB r).length ∧ σ = [(p, .arr 5 1 ((vs ++ runB r).map encU))]) := by
  have hu := uB_len 1 r.length (by omega)
  obtain ⟨k, hk⟩ : ∃ k, r[(0 : Int).toNat]? = some k := ⟨_, List.getElem?_eq_getElem (by simpa using h1)⟩
  refine scall_of (n := 13) (ks := [0, 1, 4]) Tryz.func212 rfl rfl (Nat.le_of_ble_eq_true rfl) ?_
  refine sq8 ?_
  refine rgD [(0, true), (1, true), (2, true), (4, true), (5, true), (6, true), (3, false), (7, false), (8, true)] ?_
  refine sq17 ?_
  refine sq100 ?_
  refine z56 ?_
  refine z57 ?_
  refine dcw [(q, .arr 5 1 (vs.map encU))] rfl Tryz.call137 (wasm_num q vs (by omega) r.length (by omega)) rfl argsleT stleT hbtT ?_
  rintro _ σ' ⟨r8, rfl, rfl⟩ h8
  have k8 := rest1T h8; repeat rcases k8 with ⟨_, k8⟩
  apply rd_sto; exact nflT
  refine dcw [(r8, .arr 5 1 ((vs ++ uB r.length).map encU))] rfl Tryz.call134 (wasm_putKind r8 (vs ++ uB r.length) (by simp; omega) k) rfl argsleT stleT hbtT ?_
  rintro _ σ' ⟨r12, rfl, rfl⟩ h12
  have k12 := rest1T h12; repeat rcases k12 with ⟨_, k12⟩
  apply rd_sto; exact nflT
  refine sq70 ?_
  rw [show vs ++ uB r.length ++ kB k = vs ++ runB r by unfold runB numB; rw [Int.toNat_natCast, List.append_assoc, show r.headD 0 = k by cases r with | nil => simp at h1 | cons a t => simpa using hk]]
  apply aend; exact resT
  · exact ⟨r12, rfl, rfl⟩
  · exact stleT
theorem puts_run : Puts Tryz.prog 5 212 (fun r : List Int => .ro 1 (r.map encI) .any) runB (fun r => 0 < r.length ∧ r.length ≤ 1000) 3 9000000 :=
  ⟨Tryz.call212, fun q vs x h _ hvs => ⟨runB_len h.2, w_run q vs (by omega) x h.1 h.2⟩⟩
/-- the state of the loop over the locals: the runs so far, the last one in a row of its own -/
def rState (R q q0 r3 : Nat) (vs : List Nat) (ls : List Int) (bd : List Ins) (init : List (List Int)) (last : List Int) (j : Nat) : ASt :=
  ⟨[(0, .own q0 0 vs.length), (3, .ptr r3 0), (5, .own R 0 (init.length + 1)), (10, .ro 1 (ls.map encI) .any), (11, .int .i64 ls.length), (12, .int .i64 j)],
    [(R, .arr 24 1 (init.map encR ++ [[.own q 0 last.length]])), (q, .arr 3 1 (last.map encI)), (r3, .box 41 [.ro 1 (ls.map encI) .any, .ro 4 (bd.map (iv .any)) .any]), (q0, .arr 5 1 (vs.map encU))]⟩
def rState0 (R q0 r3 : Nat) (vs : List Nat) (ls : List Int) (bd : List Ins) : ASt :=
  ⟨[(0, .own q0 0 vs.length), (3, .ptr r3 0), (5, .own R 0 0), (10, .ro 1 (ls.map encI) .any), (11, .int .i64 ls.length), (12, .int .i64 (0 : Nat))],
    [(R, .arr 24 1 []), (r3, .box 41 [.ro 1 (ls.map encI) .any, .ro 4 (bd.map (iv .any)) .any]), (q0, .arr 5 1 (vs.map encU))]⟩
structure RS_ where
  R : Nat
  q : Nat
  init : List (List Int)
  k : Int
  m : Nat
  j : Nat
def rSt (q0 r3 : Nat) (vs : List Nat) (ls : List Int) (bd : List Ins) : Sum Nat RS_ → ASt
  | .inl R => rState0 R q0 r3 vs ls bd
  | .inr s => rState s.R s.q q0 r3 vs ls bd s.init (List.replicate (s.m + 1) s.k) (s.j + 1)
def rOk (q0 r3 : Nat) (ls : List Int) : Sum Nat RS_ → Prop
  | .inl R => Nq R r3 ∧ Nq R q0
  | .inr s => ((Nq s.R s.q ∧ Nq s.R r3 ∧ Nq s.R q0) ∧ Nq s.q r3 ∧ Nq s.q q0) ∧ (s.init.length ≤ s.j ∧ s.m ≤ s.j) ∧ ls[s.j]? = some s.k ∧ runsN (ls.take (s.j + 1)) = s.init ++ [List.replicate (s.m + 1) s.k]
def rMs (ls : List Int) : Sum Nat RS_ → Nat
  | .inl _ => ls.length
  | .inr s => ls.length - (s.j + 1)
theorem own_last {l : List (List AV)} {x : List AV} {n : Nat} (h : n = l.length) : (l ++ [x])[(((n + 1 : Nat) : Int) - 1).toNat]? = some x := by
  subst h
  rw [show (((l.length + 1 : Nat) : Int) - 1).toNat = l.length by omega]; simp
theorem set_lastA {l : List (List AV)} {x y : List AV} {n : Nat} (h : n = l.length) : (l ++ [x]).set (((n + 1 : Nat) : Int) - 1).toNat y = l ++ [y] := by
  subst h
  rw [show (((l.length + 1 : Nat) : Int) - 1).toNat = l.length by omega, List.set_append, if_neg (by omega)]; simp
theorem bor_runs {σ : Sto} {q : Nat} {et : TypeId} {init : List (List Int)} {last : List Int} (hg : sget σ q = some (.arr et 1 (last.map encI))) : ∀ (i : Nat) (x x' : List AV), (init.map encR ++ [[AV.own q 0 last.length]])[i]? = some x → ((init ++ [last]).map encR)[i]? = some x' → BorL σ [q] x x' := by
  intro i x x' h1 h2
  rw [List.map_append] at h2
  rcases Nat.lt_or_ge i (init.map encR).length with hlt | hge
  · rw [List.getElem?_append_left hlt] at h1 h2
    obtain rfl := Option.some.inj (h1.symm.trans h2)
    obtain ⟨r, -, rfl⟩ := List.mem_map.1 (List.mem_of_getElem? h1)
    exact .cons (.refl _) .nil
  · rw [List.getElem?_append_right hge] at h1 h2
    cases hi : i - (init.map encR).length with
    | zero =>
      rw [hi] at h1 h2
      cases h1; cases h2
      exact .cons (bor_own hg (by simp)) .nil
    | succ n => rw [hi] at h1; cases h1
theorem rows_runs (rs : List (List Int)) : RowsOk 1 (rs.map encR) := by
  intro x hx
  obtain ⟨r, -, rfl⟩ := List.mem_map.1 hx
  exact ⟨rfl, by simp [encR, AV.cell]⟩
theorem runs_len (l : List Int) (hl : l.length ≤ 32) : (∀ r ∈ runsN l, 0 < r.length ∧ r.length ≤ 1000) ∧ (runsN l).length ≤ 32 ∧ (vecB (runsN l) runB).length ≤ 98 := by
  obtain ⟨h1, h2⟩ := runs_ok _ l rfl
  have hr : ∀ (rs : List (List Int)), (∀ r ∈ rs, ∃ k m, r = List.replicate (m + 1) k ∧ k ∈ l ∧ m + 1 ≤ l.length) → rs.length ≤ rs.flatten.length := by
    intro rs
    induction rs with
    | nil => simp
    | cons r rs ih =>
      intro h
      obtain ⟨k, m, rfl, -, -⟩ := h r List.mem_cons_self
      have := ih fun r hr => h r (List.mem_cons_of_mem _ hr)
      simp at this ⊢; omega
  have hn := hr _ h2
  rw [h1] at hn
  have h3 : ∀ r ∈ runsN l, 0 < r.length ∧ r.length ≤ 1000 := fun r hr => by
    obtain ⟨k, m, rfl, -, hm⟩ := h2 r hr
    simp; omega
  have := vec_len (pt := runB) (l := runsN l) (c := 3) (fun r hr => runB_len (h3 r hr).2) (by omega)
  exact ⟨h3, by omega, by omega⟩
theorem w_co (q0 : Nat) (vs : List Nat) (hvs : vs.length ≤ 9000000) (ls : List Int) (bd : List Ins) (hl : ls.length ≤ 32) (hb : bd.length ≤ 300) (hm : ∀ x ∈ bd, x.Ok ∧ mayN x = true) : SCall Tryz.prog 153 [.own q0 0 vs.length, .agg (encCo ⟨ls, bd⟩)] [(q0, .arr 5 1 (vs.map encU))]
    (fun y σ => ∃ p, y = .own p 0 (vs ++ codB ⟨ls, bd⟩).length ∧ σ = [(p, .arr 5 1 ((vs ++ codB ⟨ls, bd⟩).map encU))]) := by
  obtain ⟨hv1, hv2, hv3⟩ := runs_len ls hl
  have hpl := putL_len hm
  have hub := uB_len 4 (vecB (runsN ls) runB ++ putL bd).length (by simp; omega)
  refine scall_of (n := 61) (ks := [0, 1, 3, 4, 5, 6, 7, 8, 10, 11, 12, 13, 28]) Tryz.func153 rfl rfl (Nat.le_of_ble_eq_true rfl) ?_
  unfold encCo
  dsimp only
  refine sq3 ?_
  apply bx; rfl; rfl; (exact zcT); rfl; refine freshT fun r3 h3 => ?_; repeat rcases h3 with ⟨_, h3⟩
  refine sq25 ?_
  refine sq2 ?_
  refine sw_virt 5 24 1 (by decide) rfl (by decide) (freshT fun R0 hR0 => ?_); repeat rcases hR0 with ⟨_, hR0⟩
  refine rgT ?_
  refine sq11 ?_
  refine sq96 ?_
  refine lp (β := Sum Nat RS_) (rSt q0 r3 vs ls bd) (rOk q0 r3 ls) (rMs ls) (.inl R0) (by unfold rSt rState0; (exact sgoT)) (by unfold rOk; exact ⟨by (exact nqT), by (exact nqT)⟩) ?_
  intro st hst
  refine ctlT ?_
  rcases st with R | ⟨R, q, init, k, m, j⟩
  · obtain ⟨hR1, hR2⟩ := hst
    unfold rSt rState0
    refine rgT ?_
    refine sq13 ?_
    refine sw_cond rfl (fun g3 => ?_) (fun g3 => ?_)
    · obtain ⟨x, hx⟩ : ∃ x, ls[0]? = some x := ⟨_, List.getElem?_eq_getElem (by simp at g3; omega)⟩
      have h0 : 0 < ls.length := (List.getElem?_eq_some_iff.1 hx).1
      have hx' : ls[(((0 : Nat)) : Int).toNat]? = some x := hx
      refine sq7 ?_
      refine sq76 ?_
      refine sq82 ?_
      refine lo (lop_gtr (E rfl) (E rfl)) rfl ?_
      rw [show decide ((0 : Int) < ((0 : Nat) : Int)) = false from rfl]
      refine sq50 ?_
      refine z109 ?_
      refine z119 ?_
      refine z120 ?_
      refine z121 ?_
      refine z109 ?_
      refine z128 ?_
      refine z68 ?_
      refine sq49 ?_
      refine z1 ?_; refine freshT fun r45 h45 => ?_; repeat rcases h45 with ⟨_, h45⟩
      refine z1 ?_; refine freshT fun r46 h46 => ?_; repeat rcases h46 with ⟨_, h46⟩
      refine apA [[AV.own r45 0 1]] 1 ?_
      refine apnT fun r47 h47 => ?_; repeat rcases h47 with ⟨_, h47⟩
      refine sq78 ?_
      refine ⟨.inr ⟨r47, r45, [], x, 0, 0⟩, ⟨⟨⟨by show Nq r47 r45; (exact nqT), by show Nq r47 r3; (exact nqT), by show Nq r47 q0; (exact nqT)⟩, by show Nq r45 r3; (exact nqT), by show Nq r45 q0; (exact nqT)⟩, ⟨Nat.zero_le _, Nat.le_refl _⟩, hx, runs_one hx⟩, by show ls.length - (0 + 1) < ls.length; have := (List.getElem?_eq_some_iff.1 hx).1; omega, ?_⟩
      dsimp only
      unfold rState
      exact sgoT
    have hls : ls = [] := by cases ls with | nil => rfl | cons a t => simp at g3
    refine fzvs (j := 5) (v' := .ro 1 ((runsN ls).map encR) .any) rfl sdelT (by rw [hls]; exact bor_own sgT rfl) ?_
    refine sq7 ?_
    refine cw [] Tryz.call211 (nvec_run puts_run (by decide) (runsN ls) hv1 (by omega) (by omega)) rfl argsleT stleT ?_
    rintro _ σ' ⟨r50, rfl, rfl⟩ h50
    replace h50 := cnewT h50; repeat rcases h50 with ⟨_, h50⟩
    apply rs_sto; exact nflT
    refine sq37 ?_
    refine sq11 ?_
    refine cw [(r50, .arr 5 1 ((vecB (runsN ls) runB).map encU))] Tryz.call213 (code_put r50 (vecB (runsN ls) runB) (by omega) bd (by omega) hm) rfl argsleT stleT ?_
    rintro _ σ' ⟨r54, rfl, rfl⟩ h54
    have k54 := rest1T h54; repeat rcases k54 with ⟨_, k54⟩
    apply rs_sto; exact nflT
    refine sq2 ?_
    have hPl : (vecB (runsN ls) runB ++ putL bd).length ≤ 61000 := by simp; omega
    have hcd : codB ⟨ls, bd⟩ = uB (vecB (runsN ls) runB ++ putL bd).length ++ (vecB (runsN ls) runB ++ putL bd) := rfl
    rw [hcd]
    generalize vecB (runsN ls) runB ++ putL bd = P at hPl hub ⊢
    refine sq5 ?_
    refine z14 ?_
    refine cw [(q0, .arr 5 1 (vs.map encU))] Tryz.call137 (wasm_num q0 vs (by omega) P.length (by omega)) rfl argsleT stleT ?_
    rintro _ σ' ⟨r58, rfl, rfl⟩ h58
    have k58 := rest1T h58; repeat rcases k58 with ⟨_, k58⟩
    apply rs_sto; exact nflT
    refine lo (lop_move (E rfl)) rfl ?_
    refine apA ((vs ++ uB P.length ++ P).map encU) (vs ++ uB P.length ++ P).length ?_
    refine apnT fun r60 h60 => ?_; repeat rcases h60 with ⟨_, h60⟩
    refine sq2 ?_
    rw [List.append_assoc]
    apply aend; exact resT
    · exact ⟨r60, rfl, rfl⟩
    · exact stleT
  · obtain ⟨⟨⟨hq1, hq2, hq3⟩, hq4, hq5⟩, ⟨hij, hmj⟩, hkj, hru⟩ := hst
    dsimp only at hq1 hq2 hq3 hq4 hq5 hkj hru hij hmj
    have hrl : (List.replicate (m + 1) k).length = m + 1 := List.length_replicate
    unfold rSt rState
    dsimp only
    refine rgT ?_
    refine sq13 ?_
    refine sw_cond rfl (fun g3 => ?_) (fun g3 => ?_)
    · have hlt : j + 1 < ls.length := by simp at g3; omega
      obtain ⟨x, hx⟩ : ∃ x, ls[j + 1]? = some x := ⟨_, List.getElem?_eq_getElem hlt⟩
      have hkj' : ls[(((j + 1 : Nat) : Int) - 1).toNat]? = some k := by rw [show (((j + 1 : Nat) : Int) - 1).toNat = j by omega]; exact hkj
      refine sq7 ?_
      refine sq76 ?_
      refine sq82 ?_
      refine lo (lop_gtr (E rfl) (E rfl)) rfl ?_
      refine sq50 ?_
      refine z109 ?_
      refine z119 ?_
      refine z120 ?_
      refine z121 ?_
      refine z109 ?_
      refine z128 ?_
      refine sq91 ?_
      refine sw_cond rfl (fun g5 => ?_) (fun g5 => ?_)
      · obtain rfl : k = x := by simpa using g5
        have hel := own_last (l := init.map encR) (x := [AV.own q 0 (List.replicate (m + 1) k).length]) (n := init.length) (by simp)
        have hsn := runs_same hru hx
        refine sq18 ?_
        refine z14 ?_
        refine z19 ?_
        refine lo (lop_move (E rfl)) rfl ?_
        refine sq35 ?_
        refine z19 ?_
        refine sq76 ?_
        refine lo (lop_move (E rfl)) rfl ?_
        refine z1 ?_; refine freshT fun r40 h40 => ?_; repeat rcases h40 with ⟨_, h40⟩
        refine apA ((List.replicate (m + 1) k ++ [k]).map encI) (List.replicate (m + 1) k ++ [k]).length ?_
        refine apnT fun r41 h41 => ?_; repeat rcases h41 with ⟨_, h41⟩
        refine z15 ?_
        refine z118 ?_
        refine sq4 ?_
        have hse := fun y => set_lastA (l := init.map encR) (x := [AV.own q 0 (List.replicate (m + 1) k).length]) (y := y) (n := init.length) (by simp)
        rw [hse]
        refine rgT ?_
        refine sq33 ?_
        first | (refine ⟨.inr ⟨R, r41, init, k, m + 1, j + 1⟩, ⟨⟨⟨by show Nq R r41; (exact nqT), hq2, hq3⟩, by show Nq r41 r3; (exact nqT), by show Nq r41 q0; (exact nqT)⟩, ⟨by show init.length ≤ j + 1; omega, by show m + 1 ≤ j + 1; omega⟩, hx, by rw [List.replicate_succ']; exact hsn⟩, by show ls.length - (j + 1 + 1) < ls.length - (j + 1); omega, ?_⟩; dsimp only; (try unfold rState); (try dsimp only); rw [List.replicate_succ' (n := m + 1)]; (exact sgoT)) | (refine ⟨.inr ⟨r47, r45, init ++ [List.replicate (m + 1) k], x, 0, j + 1⟩, ⟨⟨⟨by show Nq r47 r45; (exact nqT), by show Nq r47 r3; (exact nqT), by show Nq r47 q0; (exact nqT)⟩, by show Nq r45 r3; (exact nqT), by show Nq r45 q0; (exact nqT)⟩, ⟨by show (init ++ [List.replicate (m + 1) k]).length ≤ j + 1; simp; omega, Nat.zero_le _⟩, hx, hsn⟩, by show ls.length - (j + 1 + 1) < ls.length - (j + 1); omega, ?_⟩; dsimp only; (try unfold rState); (try dsimp only); rw [show (init ++ [List.replicate (m + 1) k]).length = init.length + 1 by simp]; (exact sgoT))
      have hkx : k ≠ x := by intro e; subst e; simp at g5
      have hsn := runs_new hru hx hkx
      refine sw_go (sgo_fza (r := R) (q := q) (es' := (init ++ [List.replicate (m + 1) k]).map encR) ssetT sdelT (by simp) (rows_runs _) (bor_runs sgT)) ?_
      refine sq18 ?_
      refine z1 ?_; refine freshT fun r45 h45 => ?_; repeat rcases h45 with ⟨_, h45⟩
      refine z1 ?_; refine freshT fun r46 h46 => ?_; repeat rcases h46 with ⟨_, h46⟩
      refine apA ((init ++ [List.replicate (m + 1) k]).map encR ++ [[AV.own r45 0 1]]) (init.length + 1 + 1) ?_ (hby := by omega)
      refine apnT fun r47 h47 => ?_; repeat rcases h47 with ⟨_, h47⟩
      refine sq78 ?_
      first | (refine ⟨.inr ⟨R, r41, init, k, m + 1, j + 1⟩, ⟨⟨⟨by show Nq R r41; (exact nqT), hq2, hq3⟩, by show Nq r41 r3; (exact nqT), by show Nq r41 q0; (exact nqT)⟩, ⟨by show init.length ≤ j + 1; omega, by show m + 1 ≤ j + 1; omega⟩, hx, by rw [List.replicate_succ']; exact hsn⟩, by show ls.length - (j + 1 + 1) < ls.length - (j + 1); omega, ?_⟩; dsimp only; (try unfold rState); (try dsimp only); rw [List.replicate_succ' (n := m + 1)]; (exact sgoT)) | (refine ⟨.inr ⟨r47, r45, init ++ [List.replicate (m + 1) k], x, 0, j + 1⟩, ⟨⟨⟨by show Nq r47 r45; (exact nqT), by show Nq r47 r3; (exact nqT), by show Nq r47 q0; (exact nqT)⟩, by show Nq r45 r3; (exact nqT), by show Nq r45 q0; (exact nqT)⟩, ⟨by show (init ++ [List.replicate (m + 1) k]).length ≤ j + 1; simp; omega, Nat.zero_le _⟩, hx, hsn⟩, by show ls.length - (j + 1 + 1) < ls.length - (j + 1); omega, ?_⟩; dsimp only; (try unfold rState); (try dsimp only); rw [show (init ++ [List.replicate (m + 1) k]).length = init.length + 1 by simp]; (exact sgoT))
    have hjl : j + 1 = ls.length := by have := (List.getElem?_eq_some_iff.1 hkj).1; simp at g3; omega
    rw [hjl, List.take_length] at hru
    refine sw_go (sgo_fza (r := R) (q := q) (es' := (runsN ls).map encR) ssetT sdelT (by rw [hru]; simp) (rows_runs _) (by rw [hru]; exact bor_runs sgT)) ?_
    refine fzvs (j := 5) (v' := .ro 1 ((runsN ls).map encR) .any) rfl sdelT (bor_own sgT (by rw [hru]; simp)) ?_
    refine sq7 ?_
    refine cw [] Tryz.call211 (nvec_run puts_run (by decide) (runsN ls) hv1 (by omega) (by omega)) rfl argsleT stleT ?_
    rintro _ σ' ⟨r50, rfl, rfl⟩ h50
    replace h50 := cnewT h50; repeat rcases h50 with ⟨_, h50⟩
    apply rs_sto; exact nflT
    refine sq37 ?_
    refine sq11 ?_
    refine cw [(r50, .arr 5 1 ((vecB (runsN ls) runB).map encU))] Tryz.call213 (code_put r50 (vecB (runsN ls) runB) (by omega) bd (by omega) hm) rfl argsleT stleT ?_
    rintro _ σ' ⟨r54, rfl, rfl⟩ h54
    have k54 := rest1T h54; repeat rcases k54 with ⟨_, k54⟩
    apply rs_sto; exact nflT
    refine sq2 ?_
    have hPl : (vecB (runsN ls) runB ++ putL bd).length ≤ 61000 := by simp; omega
    have hcd : codB ⟨ls, bd⟩ = uB (vecB (runsN ls) runB ++ putL bd).length ++ (vecB (runsN ls) runB ++ putL bd) := rfl
    rw [hcd]
    generalize vecB (runsN ls) runB ++ putL bd = P at hPl hub ⊢
    refine sq5 ?_
    refine z14 ?_
    refine cw [(q0, .arr 5 1 (vs.map encU))] Tryz.call137 (wasm_num q0 vs (by omega) P.length (by omega)) rfl argsleT stleT ?_
    rintro _ σ' ⟨r58, rfl, rfl⟩ h58
    have k58 := rest1T h58; repeat rcases k58 with ⟨_, k58⟩
    apply rs_sto; exact nflT
    refine lo (lop_move (E rfl)) rfl ?_
    refine apA ((vs ++ uB P.length ++ P).map encU) (vs ++ uB P.length ++ P).length ?_
    refine apnT fun r60 h60 => ?_; repeat rcases h60 with ⟨_, h60⟩
    refine sq2 ?_
    rw [List.append_assoc]
    apply aend; exact resT
    · exact ⟨r60, rfl, rfl⟩
    · exact stleT
/-
  A module is written.
-/
theorem puts_co : Puts Tryz.prog 5 153 (fun x => .agg (encCo x)) codB (fun c => codN c = true ∧ ∀ x ∈ c.bd, x.Ok) 61000 9000000 :=
  ⟨Tryz.call153, fun q vs x h _ hvs => by
    obtain ⟨ls, bd⟩ := x
    obtain ⟨h, hO⟩ := h
    unfold codN at h
    simp only [Bool.and_eq_true] at h
    obtain ⟨⟨h1, h2⟩, h3⟩ := h
    obtain ⟨k1, k2⟩ := all_of h2
    obtain ⟨k3, k4⟩ := all_of h3
    have hm : ∀ x ∈ bd, x.Ok ∧ mayN x = true := fun x hx => ⟨hO x hx, k4 x hx⟩
    obtain ⟨hv1, hv2, hv3⟩ := runs_len ls (by omega)
    have hpl := putL_len hm
    have hb : bd.length ≤ 300 := by omega
    have hub := uB_len 4 (vecB (runsN ls) runB ++ putL bd).length (by simp; omega)
    exact ⟨by unfold codB; simp at hub ⊢; omega, w_co q vs hvs ls bd (by omega) hb hm⟩⟩
theorem sec_len {P : Program} {t8 : TypeId} {f : FuncId} {α : Type} {ar : α → AV} {pt : α → List Nat} {ok : α → Prop} {c B : Nat} (hf : Puts P t8 f ar pt ok c B) (hB : 1 ≤ B) {l : List α} (hl : ∀ x ∈ l, ok x) (hn : l.length ≤ 16) (hc : c ≤ 100000) (no : Nat) : (secB no l pt).length ≤ 10 + 16 * c := by
  have h1 := vec_len (pt := pt) (l := l) (c := c) (fun x hx => (hf.2 0 [0] x (hl x hx) (by simp) hB).1) (by omega)
  have h2 : l.length * c ≤ 16 * c := Nat.mul_le_mul_right c hn
  have h3 := uB_len 4 (vecB l pt).length (by omega)
  unfold secB
  split
  · simp
  · simp; omega
/-- all of mayM, but for the length -/
def mayA (m : Md) : Bool := (m.co.length == m.fn.length && allN m.co 16 codN) && listsN m && limN m.tb 16 1000 && limN m.me 16 65536
theorem mayM_eq (m : Md) : mayM m = (mayA m && decide ((writB m).length ≤ 8000)) := rfl
theorem one_ok {l : Li} {a c : Int} (h : limN l a c = true) (ha : a ≤ 100000) (hc : c ≤ 100000) : (∀ x ∈ oneL l, okLi x) ∧ (oneL l).length ≤ 1 := by
  obtain ⟨has, mn, mx⟩ := l
  cases has with
  | false => exact ⟨by simp [oneL], by simp [oneL]⟩
  | true =>
    unfold limN at h
    simp only [if_true, Bool.and_eq_true, decide_eq_true_eq] at h
    refine ⟨fun x hx => ?_, by simp [oneL]⟩
    obtain rfl : x = ⟨true, mn, mx⟩ := by simpa [oneL] using hx
    unfold okLi; dsimp only; omega
theorem wasm_written (m : Md) (h : mayA m = true) (hO : m.Ok) : SCall Tryz.prog 92 [.agg (encMd m)] [] (fun y σ => ∃ r, y = .own r 0 (writB m).length ∧ σ = [(r, .arr 5 1 ((writB m).map encU))]) := by
  obtain ⟨ty, im, fn, tb, me, gl, ex, el, co, da⟩ := m
  unfold mayA at h
  simp only [Bool.and_eq_true] at h
  obtain ⟨⟨⟨⟨-, hco⟩, hls⟩, htb⟩, hme⟩ := h
  unfold listsN at hls
  simp only [Bool.and_eq_true] at hls
  obtain ⟨⟨⟨⟨⟨⟨hty, him⟩, hfn⟩, hgl⟩, hex⟩, hel⟩, hda⟩ := hls
  obtain ⟨hO1, hO2⟩ := hO
  dsimp only at *
  obtain ⟨a1, a2⟩ := all_of hty
  obtain ⟨b1, b2⟩ := all_of him
  obtain ⟨c1, c2⟩ := all_of hfn
  obtain ⟨d1, d2⟩ := all_of hgl
  obtain ⟨e1, e2⟩ := all_of hex
  obtain ⟨f1, f2⟩ := all_of hel
  obtain ⟨g1, g2⟩ := all_of hda
  obtain ⟨i1, i2⟩ := all_of hco
  obtain ⟨t2, t1⟩ := one_ok htb (by decide) (by decide)
  obtain ⟨u2, u1⟩ := one_ok hme (by decide) (by decide)
  have d2' : ∀ g ∈ gl, valN g.kd g.n = true ∧ -9223372036854775808 ≤ g.n ∧ g.n ≤ 9223372036854775807 := fun g hg => ⟨d2 g hg, hO2 g hg⟩
  have i2' : ∀ c ∈ co, codN c = true ∧ ∀ x ∈ c.bd, x.Ok := fun c hc => ⟨i2 c hc, hO1 c hc⟩
  have L1 := sec_len puts_ft (by decide) a2 (by omega) (by decide) 1
  have L2 := sec_len puts_im (by decide) b2 (by omega) (by decide) 2
  have L3 := sec_len puts_num (by decide) c2 (by omega) (by decide) 3
  have L4 := sec_len puts_tb (by decide) t2 (by omega) (by decide) 4
  have L5 := sec_len puts_li (by decide) u2 (by omega) (by decide) 5
  have L6 := sec_len puts_gl (by decide) d2' (by omega) (by decide) 6
  have L7 := sec_len puts_ex (by decide) e2 (by omega) (by decide) 7
  have L9 := sec_len puts_el (by decide) f2 (by omega) (by decide) 9
  have L10 := sec_len puts_co (by decide) i2' (by omega) (by decide) 10
  have hW : writB ⟨ty, im, fn, tb, me, gl, ex, el, co, da⟩ = headB ++ secB 1 ty ftB ++ secB 2 im imB ++ secB 3 fn numB ++ secB 4 (oneL tb) (fun l => 112 :: limB l) ++ secB 5 (oneL me) limB ++ secB 6 gl glB ++ secB 7 ex exB ++ secB 9 el elB ++ secB 10 co codB ++ secB 11 da daB := rfl
  rw [hW]
  have hH : headB.length = 8 := rfl
  refine scall_of (n := 48) (ks := [0, 1, 2, 3]) Tryz.func92 rfl rfl (Nat.le_of_ble_eq_true rfl) ?_
  unfold encMd
  dsimp only
  refine sq3 ?_
  apply bx; rfl; rfl; (exact zcT); rfl; refine freshT fun r1 h1 => ?_; repeat rcases h1 with ⟨_, h1⟩
  refine sq25 ?_
  refine z1 ?_; refine freshT fun r4 h4 => ?_; repeat rcases h4 with ⟨_, h4⟩
  refine cvm (len := 8) ssetT (by decide) ?_
  refine sq2 ?_
  rw [show ([[.int .u8 0], [.int .u8 97], [.int .u8 115], [.int .u8 109], [.int .u8 1], [.int .u8 0], [.int .u8 0], [.int .u8 0]] : List (List AV)) = headB.map encU from rfl, show AV.own r4 0 8 = AV.own r4 0 headB.length from rfl]
  refine sq93 ?_
  refine cw [(r4, .arr 5 1 (headB.map encU))] Tryz.call131 (sec_ft puts_ft (by decide) r4 headB 1 (by decide) ty a2 (by omega) (by omega) (by omega)) rfl argsleT stleT ?_
  rintro _ σ' ⟨r9, rfl, rfl⟩ h9
  have k9 := rest1T h9; repeat rcases k9 with ⟨_, k9⟩
  apply rs_sto; exact nflT
  refine sq2 ?_
  generalize secB 1 ty ftB = S1 at L1 ⊢
  refine sq93 ?_
  refine cw [(r9, .arr 5 1 ((headB ++ S1).map encU))] Tryz.call135 (sec_im puts_im (by decide) r9 (headB ++ S1) 2 (by decide) im b2 (by omega) (by simp; omega) (by omega)) rfl argsleT stleT ?_
  rintro _ σ' ⟨r13, rfl, rfl⟩ h13
  have k13 := rest1T h13; repeat rcases k13 with ⟨_, k13⟩
  apply rs_sto; exact nflT
  refine sq2 ?_
  generalize secB 2 im imB = S2 at L2 ⊢
  refine sq93 ?_
  refine cw [(r13, .arr 5 1 ((headB ++ S1 ++ S2).map encU))] Tryz.call139 (sec_int puts_num (by decide) r13 (headB ++ S1 ++ S2) 3 (by decide) fn c2 (by omega) (by simp; omega) (by omega)) rfl argsleT stleT ?_
  rintro _ σ' ⟨r17, rfl, rfl⟩ h17
  have k17 := rest1T h17; repeat rcases k17 with ⟨_, k17⟩
  apply rs_sto; exact nflT
  refine sq2 ?_
  generalize secB 3 fn numB = S3 at L3 ⊢
  refine sq1 ?_
  refine z59 ?_
  refine z99 ?_
  refine cw [] Tryz.call141 (wasm_one tb) rfl argsleT stleT ?_
  rintro _ σ' ⟨q21, rfl, rfl⟩ h21
  replace h21 := cnewT h21; repeat rcases h21 with ⟨_, h21⟩
  apply rs_sto; exact nflT
  refine fzv (j := 21) rfl sdelT (bor_own sgT (by simp)) ?_
  refine cw [(r17, .arr 5 1 ((headB ++ S1 ++ S2 ++ S3).map encU))] Tryz.call140 (sec_li puts_tb (by decide) r17 (headB ++ S1 ++ S2 ++ S3) 4 (by decide) (oneL tb) t2 (by omega) (by simp; omega) (by omega)) rfl argsleT stleT ?_
  rintro _ σ' ⟨r22, rfl, rfl⟩ h22
  have k22 := rest1T h22; repeat rcases k22 with ⟨_, k22⟩
  apply rs_sto; exact nflT
  refine sq2 ?_
  generalize secB 4 (oneL tb) (fun l => 112 :: limB l) = S4 at L4 ⊢
  refine sq1 ?_
  refine z59 ?_
  refine z99 ?_
  refine cw [] Tryz.call141 (wasm_one me) rfl argsleT stleT ?_
  rintro _ σ' ⟨q26, rfl, rfl⟩ h26
  replace h26 := cnewT h26; repeat rcases h26 with ⟨_, h26⟩
  apply rs_sto; exact nflT
  refine fzv (j := 26) rfl sdelT (bor_own sgT (by simp)) ?_
  refine cw [(r22, .arr 5 1 ((headB ++ S1 ++ S2 ++ S3 ++ S4).map encU))] Tryz.call140 (sec_li puts_li (by decide) r22 (headB ++ S1 ++ S2 ++ S3 ++ S4) 5 (by decide) (oneL me) u2 (by omega) (by simp; omega) (by omega)) rfl argsleT stleT ?_
  rintro _ σ' ⟨r27, rfl, rfl⟩ h27
  have k27 := rest1T h27; repeat rcases k27 with ⟨_, k27⟩
  apply rs_sto; exact nflT
  refine sq2 ?_
  generalize secB 5 (oneL me) limB = S5 at L5 ⊢
  refine sq93 ?_
  refine cw [(r27, .arr 5 1 ((headB ++ S1 ++ S2 ++ S3 ++ S4 ++ S5).map encU))] Tryz.call144 (sec_gl puts_gl (by decide) r27 (headB ++ S1 ++ S2 ++ S3 ++ S4 ++ S5) 6 (by decide) gl d2' (by omega) (by simp; omega) (by omega)) rfl argsleT stleT ?_
  rintro _ σ' ⟨r31, rfl, rfl⟩ h31
  have k31 := rest1T h31; repeat rcases k31 with ⟨_, k31⟩
  apply rs_sto; exact nflT
  refine sq2 ?_
  generalize secB 6 gl glB = S6 at L6 ⊢
  refine sq93 ?_
  refine cw [(r31, .arr 5 1 ((headB ++ S1 ++ S2 ++ S3 ++ S4 ++ S5 ++ S6).map encU))] Tryz.call147 (sec_ex puts_ex (by decide) r31 (headB ++ S1 ++ S2 ++ S3 ++ S4 ++ S5 ++ S6) 7 (by decide) ex e2 (by omega) (by simp; omega) (by omega)) rfl argsleT stleT ?_
  rintro _ σ' ⟨r35, rfl, rfl⟩ h35
  have k35 := rest1T h35; repeat rcases k35 with ⟨_, k35⟩
  apply rs_sto; exact nflT
  refine sq2 ?_
  generalize secB 7 ex exB = S7 at L7 ⊢
  refine sq93 ?_
  refine cw [(r35, .arr 5 1 ((headB ++ S1 ++ S2 ++ S3 ++ S4 ++ S5 ++ S6 ++ S7).map encU))] Tryz.call149 (sec_el puts_el (by decide) r35 (headB ++ S1 ++ S2 ++ S3 ++ S4 ++ S5 ++ S6 ++ S7) 9 (by decide) el f2 (by omega) (by simp; omega) (by omega)) rfl argsleT stleT ?_
  rintro _ σ' ⟨r39, rfl, rfl⟩ h39
  have k39 := rest1T h39; repeat rcases k39 with ⟨_, k39⟩
  apply rs_sto; exact nflT
  refine sq2 ?_
  generalize secB 9 el elB = S9 at L9 ⊢
  refine sq93 ?_
  refine cw [(r39, .arr 5 1 ((headB ++ S1 ++ S2 ++ S3 ++ S4 ++ S5 ++ S6 ++ S7 ++ S9).map encU))] Tryz.call152 (sec_co puts_co (by decide) r39 (headB ++ S1 ++ S2 ++ S3 ++ S4 ++ S5 ++ S6 ++ S7 ++ S9) 10 (by decide) co i2' (by omega) (by simp; omega) (by omega)) rfl argsleT stleT ?_
  rintro _ σ' ⟨r43, rfl, rfl⟩ h43
  have k43 := rest1T h43; repeat rcases k43 with ⟨_, k43⟩
  apply rs_sto; exact nflT
  refine sq2 ?_
  generalize secB 10 co codB = S10 at L10 ⊢
  refine sq93 ?_
  refine cw [(r43, .arr 5 1 ((headB ++ S1 ++ S2 ++ S3 ++ S4 ++ S5 ++ S6 ++ S7 ++ S9 ++ S10).map encU))] Tryz.call154 (sec_da puts_da (by decide) r43 (headB ++ S1 ++ S2 ++ S3 ++ S4 ++ S5 ++ S6 ++ S7 ++ S9 ++ S10) 11 (by decide) da g2 (by omega) (by simp; omega) (by omega)) rfl argsleT stleT ?_
  rintro _ σ' ⟨r47, rfl, rfl⟩ h47
  have k47 := rest1T h47; repeat rcases k47 with ⟨_, k47⟩
  apply rs_sto; exact nflT
  refine sq2 ?_
  apply aend; exact resT
  · exact ⟨r47, rfl, rfl⟩
  · exact stleT
/-
  Package check: need, push, list, pop.
-/
def ckC (m : Md) (lv : AV) (p q : Nat) (vs : List Int) (cs : List Ct) (b : Bool) : List AV := [.ro 2 (m.ty.map encFT) .any, .ro 3 (m.im.map encIm) .any, .ro 1 (m.fn.map encI) .any, .bool m.tb.has, .int .i64 m.tb.mn, .int .i64 m.tb.mx, .bool m.me.has, .int .i64 m.me.mn, .int .i64 m.me.mx,
  .ro 3 (m.gl.map encGl) .any, .ro 2 (m.ex.map encEx) .any, .ro 2 (m.el.map encEl) .any, .ro 2 (m.co.map encCo) .any, .ro 2 (m.da.map encDa) .any, lv, .own p 0 vs.length, .own q 0 cs.length, .bool b]
/-- a checker at r, its kinds in p, its blocks in q -/
def ckS (r p q : Nat) (m : Md) (lv : AV) (s : PS) : Sto := [(r, .box 82 (ckC m lv p q s.vs s.cs s.bad)), (p, .arr 3 1 (s.vs.map encI)), (q, .arr 92 4 (s.cs.map encCt))]
/-- as it must be, and not too many -/
structure PS.Gd (s : PS) : Prop extends s.Ok where
  bv : s.vs.length ≤ 1000000
  bc : s.cs.length ≤ 1000000
theorem PS.Gd.need {s : PS} (h : s.Gd) (b : Bool) : (needP s b).Gd := ⟨h.toOk.need b, h.bv, h.bc⟩
theorem PS.Gd.pop {s : PS} (h : s.Gd) (w : Int) : (popP s w).2.Gd := ⟨h.toOk.pop w, Nat.le_trans (pop_len s w) h.bv, by rw [pop_cs]; exact h.bc⟩
theorem PS.Gd.pops {s : PS} (h : s.Gd) (ks : List Int) : (popsP s ks).Gd := ⟨h.toOk.pops ks, Nat.le_trans (pops_len s ks) h.bv, by rw [pops_cs]; exact h.bc⟩
def Nm (r p q : Nat) : Prop := Nq p r ∧ Nq q r ∧ Nq q p
theorem stleS {P : Prop} (h : P := by (try unfold ckS ckC); (try dsimp only); exact stleT) : P := h
theorem hbtS {P : Prop} (h : P := by (try unfold ckS ckC); (try dsimp only); exact hbtT) : P := h
section
variable {r p q : Nat} {m : Md} {lv : AV}
theorem ck_need (hN : Nm r p q) (s : PS) (ok : Bool) : SCall Tryz.prog 58 [.ptr r 0, .bool ok] (ckS r p q m lv s) (fun _ σ => σ = ckS r p q m lv (needP s ok)) := by
  obtain ⟨vs, zs, b⟩ := s
  obtain ⟨n1, n2, n3⟩ := hN
  refine scall_of (n := 15) (ks := [0, 1]) Tryz.func58 rfl rfl (Nat.le_of_ble_eq_true rfl) ?_
  unfold ckS ckC
  dsimp only
  refine sq18 ?_
  refine sq38 ?_
  refine sq10 ?_
  refine z130 ?_
  refine z113 ?_
  refine sq39 ?_
  apply stp; rfl; rfl; rfl; rfl; (exact sputT)
  refine sq4 ?_
  refine aend_n ?_
  apply aend; exact resT
  · rfl
  · exact stleT
theorem ck_push (hN : Nm r p q) (s : PS) (hs : s.vs.length ≤ 1000000) (ks : List Int) (hk : ks.length ≤ 1000) : SCall Tryz.prog 59 [.ptr r 0, .ro 1 (ks.map encI) .any] (ckS r p q m lv s) (fun _ σ => ∃ e, Nm r e q ∧ σ = ckS r e q m lv (pushP s ks)) := by
  obtain ⟨vs, zs, b⟩ := s
  obtain ⟨n1, n2, n3⟩ := hN
  dsimp only at hs
  refine scall_of (n := 13) (ks := [0, 1]) Tryz.func59 rfl rfl (Nat.le_of_ble_eq_true rfl) ?_
  unfold ckS ckC
  dsimp only
  refine sq18 ?_
  refine sq38 ?_
  refine lo (lop_move (E rfl)) rfl ?_
  refine apA ((vs ++ ks).map encI) (vs ++ ks).length ?_
  refine apnT fun r10 h10 => ?_; repeat rcases h10 with ⟨_, h10⟩
  refine sq39 ?_
  apply stp; rfl; rfl; rfl; rfl; (exact sputT)
  refine sq4 ?_
  refine aend_n ?_
  apply aend; exact resT
  · exact ⟨r10, ⟨by (exact nqT), by (exact nqT), by (exact nqT)⟩, rfl⟩
  · exact stleT
theorem check_list (k : Int) : SCall Tryz.prog 60 [.int .i64 k] [] (fun y σ => y = .ro 1 ((listP k).map encI) .any ∧ σ = []) := by
  refine scall_of (n := 7) (ks := [0, 2, 4]) Tryz.func60 rfl rfl (Nat.le_of_ble_eq_true rfl) ?_
  refine sq62 ?_
  refine sq34 ?_
  refine sw_cond rfl (fun g1 => ?_) (fun g1 => ?_)
  · rw [show listP k = [] from if_pos g1]
    refine sq3 ?_
    refine sq0 ?_
    refine an ?_
    refine sw_go (sgo_vle (j := 2) (y := .ro 1 (([] : List Int).map encI) .any) rfl VLe.empty) ?_
    refine ctlT ?_
    apply aend; exact resT
    · exact ⟨rfl, rfl⟩
    · exact stleT
  rw [show listP k = [k] from if_neg (by simp [g1])]
  refine sq7 ?_
  refine z1 ?_; refine freshT fun r6 h6 => ?_; repeat rcases h6 with ⟨_, h6⟩
  refine sq0 ?_
  refine an ?_
  refine fzvs (j := 2) rfl sdelT (bor_own sgT (by simp)) ?_
  refine ctlT ?_
  apply aend; exact resT
  · exact ⟨rfl, rfl⟩
  · exact stleT
theorem cs_len (i : List Ct) (t : Ct) : (i ++ [t]).length = i.length + 1 := by simp
theorem cs_map (i : List Ct) (t : Ct) : (i ++ [t]).map encCt = i.map encCt ++ [encCt t] := by simp
theorem vs_len (i : List Int) (t : Int) : (i ++ [t]).length = i.length + 1 := by simp
theorem vs_map (i : List Int) (t : Int) : (i ++ [t]).map encI = i.map encI ++ [encI t] := by simp
theorem last_len {n : Nat} : (((n + 1 : Nat) : Int) - 1).toNat - 0 = n := by omega
theorem ck_pop (hN : Nm r p q) (s : PS) (h : s.Gd) (w : Int) : SCall Tryz.prog 57 [.ptr r 0, .int .i64 w] (ckS r p q m lv s) (fun y σ => y = .int .i64 (popP s w).1 ∧ σ = ckS r p q m lv (popP s w).2) := by
  obtain ⟨i, hi⟩ := h.cut
  have h0 := h.toOk0
  have hbv := h.bv
  have hbc := h.bc
  obtain ⟨vs, zs, b⟩ := s
  dsimp only at hi hbv hbc
  generalize PS.top ⟨vs, zs, b⟩ = t at hi
  subst hi
  rw [cs_len] at hbc
  obtain ⟨-, hh, -⟩ := h0.split
  obtain ⟨n1, n2, n3⟩ := hN
  have hel := own_last (l := i.map encCt) (x := encCt t) (n := i.length) (by simp)
  refine scall_of (n := 71) (ks := [0, 1, 4, 5, 6, 26, 59]) Tryz.func57 rfl rfl (Nat.le_of_ble_eq_true rfl) ?_
  unfold ckS ckC
  dsimp only
  rw [cs_len, cs_map]
  refine sq8 ?_
  refine rgD [(0, true), (1, true), (2, true), (3, true), (4, true), (5, true), (6, true), (7, true), (8, true), (9, true), (10, true), (11, true), (12, false), (13, false)] ?_
  refine sq32 ?_
  refine sq32 ?_
  refine z78 ?_
  refine z82 ?_
  refine z56 ?_
  refine z126 ?_
  apply dal; rfl; infer_instance; rfl; (exact zcT); refine freshT fun r5 h5 => ?_; repeat rcases h5 with ⟨_, h5⟩
  refine z95 ?_
  refine sq68 ?_
  refine rgD [(0, true), (1, true), (2, true), (3, true), (4, true), (5, true), (6, true), (7, true)] ?_
  refine sq32 ?_
  refine z78 ?_
  refine sq22 ?_
  refine z79 ?_
  refine sq68 ?_
  refine sw_cond rfl (fun g2 => ?_) (fun g2 => ?_)
  · have hP : popP ⟨vs, i ++ [t], b⟩ w = (w, needP ⟨vs, i ++ [t], b⟩ t.dd) := by unfold popP; rw [top_at, if_pos g2]
    rw [hP]
    refine sq7 ?_
    refine sq11 ?_
    refine cw (ckS r p q m lv ⟨vs, i ++ [t], b⟩) Tryz.call58 (ck_need ⟨n1, n2, n3⟩ _ t.dd) rfl argsleT stleS ?_
    rintro _ σ' rfl h30
    unfold ckS ckC; (try dsimp only)
    apply rs_sto; exact nflT
    refine sq27 ?_
    refine sq2 ?_
    apply aend; exact resT
    · exact ⟨rfl, rfl⟩
    · exact stleT
  have hl : vs.length ≠ t.ht := by intro e; rw [e] at g2; simp at g2
  obtain ⟨ws, g, rfl⟩ : ∃ ws g, vs = ws ++ [g] := by
    rcases List.eq_nil_or_concat vs with e | ⟨ws, g, e⟩
    · subst e; simp at hh hl; omega
    · exact ⟨ws, g, by rw [e, List.concat_eq_append]⟩
  have hel2 := own_last (l := ws.map encI) (x := encI g) (n := ws.length) (by simp)
  rw [vs_len] at hbv
  rw [vs_len, vs_map]
  refine ctlT ?_
  refine rgD [(0, true), (1, true), (2, true), (3, true), (4, true), (5, true), (6, true), (7, true), (8, true), (9, true), (10, true), (11, true), (12, true)] ?_
  refine sq32 ?_
  refine sq32 ?_
  refine z78 ?_
  refine z82 ?_
  refine z56 ?_
  refine z57 ?_
  refine sq70 ?_
  refine rgD [(0, true), (1, true), (2, true), (3, true), (4, true), (5, true), (6, true), (7, true), (8, true), (9, true), (10, true), (11, true), (12, true), (13, true), (14, false)] ?_
  refine dlo rfl (lop_move (E rfl)) rfl ?_
  refine sq32 ?_
  refine sq32 ?_
  refine z78 ?_
  refine z82 ?_
  refine z25 ?_
  refine z77 ?_
  refine z73 ?_
  refine z95 ?_
  refine sq68 ?_
  rw [last_len]
  refine sw_go (sgo_cut (o := p) ws.length ssetT) ?_
  rw [show List.take ws.length (ws.map encI ++ [encI g]) = ws.map encI by rw [List.take_left' (by simp)]]
  refine sq1 ?_
  refine sq34 ?_
  refine sw_cond rfl (fun g7 => ?_) (fun g7 => ?_)
  · have hP : popP ⟨ws ++ [g], i ++ [t], b⟩ w = (w, ⟨ws, i ++ [t], b⟩) := by unfold popP; rw [top_at, if_neg (by simpa using g2)]; simp at g7; simp [g7]
    rw [hP]
    refine sq29 ?_
    apply aend; exact resT
    · exact ⟨rfl, rfl⟩
    · exact stleT
  have hP : popP ⟨ws ++ [g], i ++ [t], b⟩ w = (g, needP ⟨ws, i ++ [t], b⟩ (if (w == 0) = true then true else (g == w))) := by unfold popP; rw [top_at, if_neg (by simpa using g2)]; simp at g7; simp [g7]
  rw [hP]
  refine sq18 ?_
  refine sq85 ?_
  refine z109 ?_
  refine z128 ?_
  refine z113 ?_
  refine cw (ckS r p q m lv ⟨ws, i ++ [t], b⟩) Tryz.call58 (ck_need ⟨n1, n2, n3⟩ _ (if (w == 0) = true then true else (g == w))) rfl argsleT stleS ?_
  rintro _ σ' rfl h69
  unfold ckS ckC; (try dsimp only)
  apply rs_sto; exact nflT
  refine sq27 ?_
  refine sq2 ?_
  apply aend; exact resT
  · exact ⟨rfl, rfl⟩
  · exact stleT
theorem ck_popAll (hN : Nm r p q) (s : PS) (h : s.Gd) (ks : List Int) (hkl : ks.length ≤ 100000) : SCall Tryz.prog 61 [.ptr r 0, .ro 1 (ks.map encI) .any] (ckS r p q m lv s) (fun _ σ => σ = ckS r p q m lv (popsP s ks)) := by
  obtain ⟨n1, n2, n3⟩ := hN
  refine scall_of (n := 18) (ks := [0, 1, 4, 9]) Tryz.func61 rfl rfl (Nat.le_of_ble_eq_true rfl) ?_
  unfold ckS ckC
  (try dsimp only)
  refine sq7 ?_
  refine z14 ?_
  refine z19 ?_
  refine sq2 ?_
  refine lp (β := Nat × PS) (fun b => ⟨[(0, .ptr r 0), (1, .ro 1 (ks.map encI) .any), (4, .int .i64 ((b.1 : Int) - 1))], ckS r p q m lv b.2⟩) (fun b => b.1 ≤ ks.length ∧ b.2.Gd ∧ popsP b.2 (ks.take b.1) = popsP s ks) (fun b => b.1) (ks.length, s) (by unfold ckS ckC; (try dsimp only); (exact sgoT)) ⟨Nat.le_refl _, h, by rw [List.take_length]⟩ ?_
  rintro ⟨j, S⟩ ⟨hj, hS, hP⟩
  dsimp only at hj hS hP ⊢
  unfold ckS ckC
  (try dsimp only)
  refine sq7 ?_
  refine sq102 ?_
  refine sw_cond rfl (fun g1 => ?_) (fun g1 => ?_)
  · obtain ⟨j, rfl⟩ : ∃ j', j = j' + 1 := ⟨j - 1, by simp at g1; omega⟩
    obtain ⟨k, hk⟩ : ∃ k, ks[j]? = some k := ⟨_, List.getElem?_eq_getElem (by omega)⟩
    have hk' : ks[(((j + 1 : Nat) : Int) - 1).toNat]? = some k := by rw [show (((j + 1 : Nat) : Int) - 1).toNat = j by omega]; exact hk
    refine sq18 ?_
    refine sq30 ?_
    refine z16 ?_
    refine cw (ckS r p q m lv S) Tryz.call57 (ck_pop ⟨n1, n2, n3⟩ S hS k) rfl argsleT stleS ?_
    rintro _ σ' ⟨rfl, rfl⟩ h17
    unfold ckS ckC; (try dsimp only)
    apply rs_sto; exact nflT
    refine sq27 ?_
    refine z19 ?_
    refine sq2 ?_
    refine ⟨(j, (popP S k).2), ⟨by show j ≤ _; omega, hS.pop k, by rw [← hP, List.take_add_one, hk]; show _ = popsP S (ks.take j ++ [k]); rw [pops_snoc]⟩, by show j < j + 1; omega, ?_⟩
    dsimp only
    rw [show (((j + 1 : Nat) : Int) - 1 - 1) = (j : Int) - 1 by omega]
    exact sgoT
  obtain rfl : j = 0 := by simp at g1; omega
  rw [show popsP s ks = S by rw [← hP]; rfl]
  refine ctlT ?_
  refine aend_n ?_
  apply aend; exact resT
  · rfl
  · exact stleT
end
end Go.Proofs.YthhlimmcncbopaaGreat
/-
  Which modules may be.
-/
namespace Go.Proofs.YthhlimmcncbopaaGreat
open Go.RowKit Go.ChangeShapes Go.WideShapes Go.ChangeAt Go.Deep
/-- a function value that tells p of an x, and leaves the entries σ as they are -/
def TellsA (P : Program) (f : FuncId) (caps : List AV) (σ : Sto) {α : Type} (ar : α → AV) (p : α → Bool) (ok : α → Prop) : Prop :=
  (∀ args w, (callFunc f args).run P w = .ok (.enter f args) w) ∧ ∀ x, ok x → SCall P f ([] ++ [ar x] ++ caps) σ (fun r σ' => r = .bool (p x) ∧ σ' = σ)
theorem ixf_ft {f : FuncId} {caps : List AV} {σ : Sto} {p : FT → Bool} {ok : FT → Prop} (hp : TellsA Tryz.prog f caps σ (fun x => .agg (encFT x)) p ok) (l : List FT) (hok : ∀ x ∈ l, ok x) : SCall Tryz.prog 246 [.ro 2 (l.map encFT) .any, .fn (.func f) [] caps] σ (fun x σ' => ∃ m : Int, x = .int .i64 m ∧ decide (0 ≤ m) = l.any p ∧ σ' = σ) := by
  refine scall_of (n := 19) (ks := [0, 1, 4, 5, 7, 8, 9, 16]) Tryz.func246 rfl rfl (Nat.le_of_ble_eq_true rfl) ?_
  refine sw_max (i := 0) rfl fun hm => ?_
  rw [List.length_map] at hm
  unfold maxLen at hm
  refine sq97 ?_
  refine lp (β := Nat) (fun j => ⟨[(0, .ro 2 (l.map encFT) .any), (1, .fn (.func f) [] caps), (7, .int .i64 l.length), (8, .int .i64 j)], σ⟩) (fun j => j ≤ l.length ∧ (l.take j).any p = false) (fun j => l.length - j) 0 ?_ ⟨Nat.zero_le _, rfl⟩ ?_
  · exact sgoT
  rintro j ⟨hj, ht⟩
  refine sq40 ?_
  refine sw_cond rfl (fun h1 => ?_) (fun h1 => ?_)
  · have hlt : j < l.length := by simp at h1; omega
    obtain ⟨x, hx⟩ : ∃ x, l[j]? = some x := ⟨_, List.getElem?_eq_getElem hlt⟩
    refine sq94 ?_
    refine sq88 ?_
    refine cf_ σ rfl hp.1 (hp.2 x (hok x (List.mem_of_getElem? hx))) rfl ?_ ?_ ?_
    · exact argsleT
    · exact fun _ h => h
    rintro r σ' ⟨rfl, rfl⟩ -
    rw [sdrop_all, List.append_nil]
    refine sq4 ?_
    refine sw_cond rfl (fun h2 => ?_) (fun h2 => ?_)
    · refine sq29 ?_
      apply aend; exact resT
      · refine ⟨j, rfl, ?_, rfl⟩
        rw [decide_eq_true (by omega)]
        exact (List.any_eq_true.2 ⟨x, List.mem_of_getElem? hx, h2⟩).symm
      · exact stleT
    · refine sq43 ?_
      refine ⟨j + 1, ⟨by omega, ?_⟩, by omega, ?_⟩
      · rw [List.take_add_one, hx, List.any_append, ht]
        simp [h2]
      · exact sgoT
  · refine sq8 ?_
    apply aend; exact resT
    · simp at h1
      rw [List.take_of_length_le (by omega)] at ht
      exact ⟨-1, rfl, by rw [ht]; rfl, rfl⟩
    · exact stleT
theorem ctf_ft {f : FuncId} {caps : List AV} {σ : Sto} {p : FT → Bool} {ok : FT → Prop} (hp : TellsA Tryz.prog f caps σ (fun x => .agg (encFT x)) p ok) (l : List FT) (hok : ∀ x ∈ l, ok x) : SCall Tryz.prog 229 [.ro 2 (l.map encFT) .any, .fn (.func f) [] caps] σ (fun x σ' => x = .bool (l.any p) ∧ σ' = σ) := by
  refine scall_of (n := 9) (ks := [0, 1, 4]) Tryz.func229 rfl rfl (Nat.le_of_ble_eq_true rfl) ?_
  refine sq52 ?_
  refine cw σ Tryz.call246 (ixf_ft hp l hok) rfl ?_ ?_ ?_
  · exact argsleT
  · exact fun _ h => h
  rintro x σ' ⟨m, rfl, hm, rfl⟩ -
  rw [sdrop_all, List.append_nil]
  refine sq45 ?_
  apply aend; exact resT
  · exact ⟨by simp only [resAV]; rw [← hm], rfl⟩
  · exact stleT
theorem nt_ft {f : FuncId} {p : FT → Bool} {ok : FT → Prop} (hp : TellsA Tryz.prog f [] [] (fun x => .agg (encFT x)) p ok) (r : Nat) : TellsA Tryz.prog 230 [.ptr r 0] [(r, .box 225 [.fn (.func f) [] []])] (fun x => .agg (encFT x)) (fun x => !p x) ok := by
    refine ⟨Tryz.call230, fun x hx => ?_⟩
    refine scall_of (n := 8) (ks := [0, 1, 2, 3]) Tryz.func230 rfl rfl (Nat.le_of_ble_eq_true rfl) ?_
    refine sq3 ?_
    apply bx; rfl; rfl; (exact zcT); rfl; refine freshT fun r2 h2 => ?_; repeat rcases h2 with ⟨_, h2⟩
    refine sq25 ?_
    refine z60 ?_
    refine z99 ?_
    refine cf_ [] rfl hp.1 (hp.2 x hx) rfl argsleT stleT ?_
    rintro _ σ' ⟨rfl, rfl⟩ h6
    apply rs_sto; exact nflT
    refine sq53 ?_
    apply aend; exact resT
    · exact ⟨rfl, rfl⟩
    · exact stleT
theorem all_ft {f : FuncId} {p : FT → Bool} {ok : FT → Prop} (hp : TellsA Tryz.prog f [] [] (fun x => .agg (encFT x)) p ok) (l : List FT) (hok : ∀ x ∈ l, ok x) (most : Int) : SCall Tryz.prog 186 [.ro 2 (l.map encFT) .any, .int .i64 most, .fn (.func f) [] []] [] (fun x σ' => x = .bool (allN l most p) ∧ σ' = []) := by
  refine scall_of (n := 17) (ks := [0, 1, 2, 5, 6]) Tryz.func186 rfl rfl (Nat.le_of_ble_eq_true rfl) ?_
  refine sq3 ?_
  apply bx; rfl; rfl; (exact zcT); rfl; refine freshT fun r5 h5 => ?_; repeat rcases h5 with ⟨_, h5⟩
  refine sq2 ?_
  by_cases hl : (l.length : Int) ≤ most
  · have hE : allN l most p = !(l.any fun x => !p x) := by unfold allN; rw [decide_eq_true hl, List.any_eq_not_all_not]; simp
    have hd : decide ((l.length : Int) ≤ most) = true := by simpa using hl
    refine sq60 ?_
    rw [hd]
    refine sq86 ?_
    refine cw [(r5, .box 225 [.fn (.func f) [] []])] Tryz.call229 (ctf_ft (nt_ft hp r5) l hok) rfl argsleT stleT ?_
    rintro _ σ' ⟨rfl, rfl⟩ h14
    apply rs_sto; exact nflT
    refine sq54 ?_
    apply aend; exact resT
    · exact ⟨by rw [hE]; rfl, rfl⟩
    · exact stleT
  · have hE : allN l most p = false := by unfold allN; rw [decide_eq_false hl]; rfl
    have hd : decide ((l.length : Int) ≤ most) = false := by simpa using hl
    refine sq60 ?_
    rw [hd]
    refine sq73 ?_
    refine sq54 ?_
    apply aend; exact resT
    · exact ⟨by rw [hE]; rfl, rfl⟩
    · exact stleT
theorem ixf_int {f : FuncId} {caps : List AV} {σ : Sto} {p : Int → Bool} {ok : Int → Prop} (hp : TellsA Tryz.prog f caps σ (fun n => .int .i64 n) p ok) (l : List Int) (hok : ∀ x ∈ l, ok x) : SCall Tryz.prog 227 [.ro 1 (l.map encI) .any, .fn (.func f) [] caps] σ (fun x σ' => ∃ m : Int, x = .int .i64 m ∧ decide (0 ≤ m) = l.any p ∧ σ' = σ) := by
  refine scall_of (n := 19) (ks := [0, 1, 4, 5, 7, 8, 9, 16]) Tryz.func227 rfl rfl (Nat.le_of_ble_eq_true rfl) ?_
  refine sw_max (i := 0) rfl fun hm => ?_
  rw [List.length_map] at hm
  unfold maxLen at hm
  refine sq97 ?_
  refine lp (β := Nat) (fun j => ⟨[(0, .ro 1 (l.map encI) .any), (1, .fn (.func f) [] caps), (7, .int .i64 l.length), (8, .int .i64 j)], σ⟩) (fun j => j ≤ l.length ∧ (l.take j).any p = false) (fun j => l.length - j) 0 ?_ ⟨Nat.zero_le _, rfl⟩ ?_
  · exact sgoT
  rintro j ⟨hj, ht⟩
  refine sq40 ?_
  refine sw_cond rfl (fun h1 => ?_) (fun h1 => ?_)
  · have hlt : j < l.length := by simp at h1; omega
    obtain ⟨x, hx⟩ : ∃ x, l[j]? = some x := ⟨_, List.getElem?_eq_getElem hlt⟩
    refine sq94 ?_
    refine sq30 ?_
    refine z16 ?_
    refine cf_ σ rfl hp.1 (hp.2 x (hok x (List.mem_of_getElem? hx))) rfl ?_ ?_ ?_
    · exact argsleT
    · exact fun _ h => h
    rintro r σ' ⟨rfl, rfl⟩ -
    rw [sdrop_all, List.append_nil]
    refine sq4 ?_
    refine sw_cond rfl (fun h2 => ?_) (fun h2 => ?_)
    · refine sq29 ?_
      apply aend; exact resT
      · refine ⟨j, rfl, ?_, rfl⟩
        rw [decide_eq_true (by omega)]
        exact (List.any_eq_true.2 ⟨x, List.mem_of_getElem? hx, h2⟩).symm
      · exact stleT
    · refine sq43 ?_
      refine ⟨j + 1, ⟨by omega, ?_⟩, by omega, ?_⟩
      · rw [List.take_add_one, hx, List.any_append, ht]
        simp [h2]
      · exact sgoT
  · refine sq8 ?_
    apply aend; exact resT
    · simp at h1
      rw [List.take_of_length_le (by omega)] at ht
      exact ⟨-1, rfl, by rw [ht]; rfl, rfl⟩
    · exact stleT
theorem ctf_int {f : FuncId} {caps : List AV} {σ : Sto} {p : Int → Bool} {ok : Int → Prop} (hp : TellsA Tryz.prog f caps σ (fun n => .int .i64 n) p ok) (l : List Int) (hok : ∀ x ∈ l, ok x) : SCall Tryz.prog 178 [.ro 1 (l.map encI) .any, .fn (.func f) [] caps] σ (fun x σ' => x = .bool (l.any p) ∧ σ' = σ) := by
  refine scall_of (n := 9) (ks := [0, 1, 4]) Tryz.func178 rfl rfl (Nat.le_of_ble_eq_true rfl) ?_
  refine sq52 ?_
  refine cw σ Tryz.call227 (ixf_int hp l hok) rfl ?_ ?_ ?_
  · exact argsleT
  · exact fun _ h => h
  rintro x σ' ⟨m, rfl, hm, rfl⟩ -
  rw [sdrop_all, List.append_nil]
  refine sq45 ?_
  apply aend; exact resT
  · exact ⟨by simp only [resAV]; rw [← hm], rfl⟩
  · exact stleT
theorem nt_int {f : FuncId} {p : Int → Bool} {ok : Int → Prop} (hp : TellsA Tryz.prog f [] [] (fun n => .int .i64 n) p ok) (r : Nat) : TellsA Tryz.prog 179 [.ptr r 0] [(r, .box 75 [.fn (.func f) [] []])] (fun n => .int .i64 n) (fun x => !p x) ok := by
    refine ⟨Tryz.call179, fun x hx => ?_⟩
    refine scall_of (n := 8) (ks := [0, 1, 3]) Tryz.func179 rfl rfl (Nat.le_of_ble_eq_true rfl) ?_
    refine sq65 ?_
    refine z60 ?_
    refine lo (lop_move (E rfl)) rfl ?_
    refine cf_ [] rfl hp.1 (hp.2 x hx) rfl argsleT stleT ?_
    rintro _ σ' ⟨rfl, rfl⟩ h6
    apply rs_sto; exact nflT
    refine sq53 ?_
    apply aend; exact resT
    · exact ⟨rfl, rfl⟩
    · exact stleT
theorem all_int {f : FuncId} {p : Int → Bool} {ok : Int → Prop} (hp : TellsA Tryz.prog f [] [] (fun n => .int .i64 n) p ok) (l : List Int) (hok : ∀ x ∈ l, ok x) (most : Int) : SCall Tryz.prog 101 [.ro 1 (l.map encI) .any, .int .i64 most, .fn (.func f) [] []] [] (fun x σ' => x = .bool (allN l most p) ∧ σ' = []) := by
  refine scall_of (n := 17) (ks := [0, 1, 2, 5, 6]) Tryz.func101 rfl rfl (Nat.le_of_ble_eq_true rfl) ?_
  refine sq3 ?_
  apply bx; rfl; rfl; (exact zcT); rfl; refine freshT fun r5 h5 => ?_; repeat rcases h5 with ⟨_, h5⟩
  refine sq2 ?_
  by_cases hl : (l.length : Int) ≤ most
  · have hE : allN l most p = !(l.any fun x => !p x) := by unfold allN; rw [decide_eq_true hl, List.any_eq_not_all_not]; simp
    have hd : decide ((l.length : Int) ≤ most) = true := by simpa using hl
    refine sq60 ?_
    rw [hd]
    refine sq86 ?_
    refine cw [(r5, .box 75 [.fn (.func f) [] []])] Tryz.call178 (ctf_int (nt_int hp r5) l hok) rfl argsleT stleT ?_
    rintro _ σ' ⟨rfl, rfl⟩ h14
    apply rs_sto; exact nflT
    refine sq54 ?_
    apply aend; exact resT
    · exact ⟨by rw [hE]; rfl, rfl⟩
    · exact stleT
  · have hE : allN l most p = false := by unfold allN; rw [decide_eq_false hl]; rfl
    have hd : decide ((l.length : Int) ≤ most) = false := by simpa using hl
    refine sq60 ?_
    rw [hd]
    refine sq73 ?_
    refine sq54 ?_
    apply aend; exact resT
    · exact ⟨by rw [hE]; rfl, rfl⟩
    · exact stleT
theorem ixf_u8 {f : FuncId} {caps : List AV} {σ : Sto} {p : Nat → Bool} {ok : Nat → Prop} (hp : TellsA Tryz.prog f caps σ (fun (n : Nat) => .int .u8 n) p ok) (l : List Nat) (hok : ∀ x ∈ l, ok x) : SCall Tryz.prog 260 [.ro 1 (l.map encU) .any, .fn (.func f) [] caps] σ (fun x σ' => ∃ m : Int, x = .int .i64 m ∧ decide (0 ≤ m) = l.any p ∧ σ' = σ) := by
  refine scall_of (n := 19) (ks := [0, 1, 4, 5, 7, 8, 9, 16]) Tryz.func260 rfl rfl (Nat.le_of_ble_eq_true rfl) ?_
  refine sw_max (i := 0) rfl fun hm => ?_
  rw [List.length_map] at hm
  unfold maxLen at hm
  refine sq97 ?_
  refine lp (β := Nat) (fun j => ⟨[(0, .ro 1 (l.map encU) .any), (1, .fn (.func f) [] caps), (7, .int .i64 l.length), (8, .int .i64 j)], σ⟩) (fun j => j ≤ l.length ∧ (l.take j).any p = false) (fun j => l.length - j) 0 ?_ ⟨Nat.zero_le _, rfl⟩ ?_
  · exact sgoT
  rintro j ⟨hj, ht⟩
  refine sq40 ?_
  refine sw_cond rfl (fun h1 => ?_) (fun h1 => ?_)
  · have hlt : j < l.length := by simp at h1; omega
    obtain ⟨x, hx⟩ : ∃ x, l[j]? = some x := ⟨_, List.getElem?_eq_getElem hlt⟩
    refine sq94 ?_
    refine sq30 ?_
    refine z16 ?_
    refine cf_ σ rfl hp.1 (hp.2 x (hok x (List.mem_of_getElem? hx))) rfl ?_ ?_ ?_
    · exact argsleT
    · exact fun _ h => h
    rintro r σ' ⟨rfl, rfl⟩ -
    rw [sdrop_all, List.append_nil]
    refine sq4 ?_
    refine sw_cond rfl (fun h2 => ?_) (fun h2 => ?_)
    · refine sq29 ?_
      apply aend; exact resT
      · refine ⟨j, rfl, ?_, rfl⟩
        rw [decide_eq_true (by omega)]
        exact (List.any_eq_true.2 ⟨x, List.mem_of_getElem? hx, h2⟩).symm
      · exact stleT
    · refine sq43 ?_
      refine ⟨j + 1, ⟨by omega, ?_⟩, by omega, ?_⟩
      · rw [List.take_add_one, hx, List.any_append, ht]
        simp [h2]
      · exact sgoT
  · refine sq8 ?_
    apply aend; exact resT
    · simp at h1
      rw [List.take_of_length_le (by omega)] at ht
      exact ⟨-1, rfl, by rw [ht]; rfl, rfl⟩
    · exact stleT
theorem ctf_u8 {f : FuncId} {caps : List AV} {σ : Sto} {p : Nat → Bool} {ok : Nat → Prop} (hp : TellsA Tryz.prog f caps σ (fun (n : Nat) => .int .u8 n) p ok) (l : List Nat) (hok : ∀ x ∈ l, ok x) : SCall Tryz.prog 248 [.ro 1 (l.map encU) .any, .fn (.func f) [] caps] σ (fun x σ' => x = .bool (l.any p) ∧ σ' = σ) := by
  refine scall_of (n := 9) (ks := [0, 1, 4]) Tryz.func248 rfl rfl (Nat.le_of_ble_eq_true rfl) ?_
  refine sq52 ?_
  refine cw σ Tryz.call260 (ixf_u8 hp l hok) rfl ?_ ?_ ?_
  · exact argsleT
  · exact fun _ h => h
  rintro x σ' ⟨m, rfl, hm, rfl⟩ -
  rw [sdrop_all, List.append_nil]
  refine sq45 ?_
  apply aend; exact resT
  · exact ⟨by simp only [resAV]; rw [← hm], rfl⟩
  · exact stleT
theorem nt_u8 {f : FuncId} {p : Nat → Bool} {ok : Nat → Prop} (hp : TellsA Tryz.prog f [] [] (fun (n : Nat) => .int .u8 n) p ok) (r : Nat) : TellsA Tryz.prog 249 [.ptr r 0] [(r, .box 266 [.fn (.func f) [] []])] (fun (n : Nat) => .int .u8 n) (fun x => !p x) ok := by
    refine ⟨Tryz.call249, fun x hx => ?_⟩
    refine scall_of (n := 8) (ks := [0, 1, 3]) Tryz.func249 rfl rfl (Nat.le_of_ble_eq_true rfl) ?_
    refine sq65 ?_
    refine z60 ?_
    refine lo (lop_move (E rfl)) rfl ?_
    refine cf_ [] rfl hp.1 (hp.2 x hx) rfl argsleT stleT ?_
    rintro _ σ' ⟨rfl, rfl⟩ h6
    apply rs_sto; exact nflT
    refine sq53 ?_
    apply aend; exact resT
    · exact ⟨rfl, rfl⟩
    · exact stleT
theorem all_u8 {f : FuncId} {p : Nat → Bool} {ok : Nat → Prop} (hp : TellsA Tryz.prog f [] [] (fun (n : Nat) => .int .u8 n) p ok) (l : List Nat) (hok : ∀ x ∈ l, ok x) (most : Int) : SCall Tryz.prog 233 [.ro 1 (l.map encU) .any, .int .i64 most, .fn (.func f) [] []] [] (fun x σ' => x = .bool (allN l most p) ∧ σ' = []) := by
  refine scall_of (n := 17) (ks := [0, 1, 2, 5, 6]) Tryz.func233 rfl rfl (Nat.le_of_ble_eq_true rfl) ?_
  refine sq3 ?_
  apply bx; rfl; rfl; (exact zcT); rfl; refine freshT fun r5 h5 => ?_; repeat rcases h5 with ⟨_, h5⟩
  refine sq2 ?_
  by_cases hl : (l.length : Int) ≤ most
  · have hE : allN l most p = !(l.any fun x => !p x) := by unfold allN; rw [decide_eq_true hl, List.any_eq_not_all_not]; simp
    have hd : decide ((l.length : Int) ≤ most) = true := by simpa using hl
    refine sq60 ?_
    rw [hd]
    refine sq86 ?_
    refine cw [(r5, .box 266 [.fn (.func f) [] []])] Tryz.call248 (ctf_u8 (nt_u8 hp r5) l hok) rfl argsleT stleT ?_
    rintro _ σ' ⟨rfl, rfl⟩ h14
    apply rs_sto; exact nflT
    refine sq54 ?_
    apply aend; exact resT
    · exact ⟨by rw [hE]; rfl, rfl⟩
    · exact stleT
  · have hE : allN l most p = false := by unfold allN; rw [decide_eq_false hl]; rfl
    have hd : decide ((l.length : Int) ≤ most) = false := by simpa using hl
    refine sq60 ?_
    rw [hd]
    refine sq73 ?_
    refine sq54 ?_
    apply aend; exact resT
    · exact ⟨by rw [hE]; rfl, rfl⟩
    · exact stleT
theorem ixf_im {f : FuncId} {caps : List AV} {σ : Sto} {p : Im → Bool} {ok : Im → Prop} (hp : TellsA Tryz.prog f caps σ (fun x => .agg (encIm x)) p ok) (l : List Im) (hok : ∀ x ∈ l, ok x) : SCall Tryz.prog 247 [.ro 3 (l.map encIm) .any, .fn (.func f) [] caps] σ (fun x σ' => ∃ m : Int, x = .int .i64 m ∧ decide (0 ≤ m) = l.any p ∧ σ' = σ) := by
  refine scall_of (n := 19) (ks := [0, 1, 4, 5, 7, 8, 9, 16]) Tryz.func247 rfl rfl (Nat.le_of_ble_eq_true rfl) ?_
  refine sw_max (i := 0) rfl fun hm => ?_
  rw [List.length_map] at hm
  unfold maxLen at hm
  refine sq97 ?_
  refine lp (β := Nat) (fun j => ⟨[(0, .ro 3 (l.map encIm) .any), (1, .fn (.func f) [] caps), (7, .int .i64 l.length), (8, .int .i64 j)], σ⟩) (fun j => j ≤ l.length ∧ (l.take j).any p = false) (fun j => l.length - j) 0 ?_ ⟨Nat.zero_le _, rfl⟩ ?_
  · exact sgoT
  rintro j ⟨hj, ht⟩
  refine sq40 ?_
  refine sw_cond rfl (fun h1 => ?_) (fun h1 => ?_)
  · have hlt : j < l.length := by simp at h1; omega
    obtain ⟨x, hx⟩ : ∃ x, l[j]? = some x := ⟨_, List.getElem?_eq_getElem hlt⟩
    refine sq94 ?_
    refine sq88 ?_
    refine cf_ σ rfl hp.1 (hp.2 x (hok x (List.mem_of_getElem? hx))) rfl ?_ ?_ ?_
    · exact argsleT
    · exact fun _ h => h
    rintro r σ' ⟨rfl, rfl⟩ -
    rw [sdrop_all, List.append_nil]
    refine sq4 ?_
    refine sw_cond rfl (fun h2 => ?_) (fun h2 => ?_)
    · refine sq29 ?_
      apply aend; exact resT
      · refine ⟨j, rfl, ?_, rfl⟩
        rw [decide_eq_true (by omega)]
        exact (List.any_eq_true.2 ⟨x, List.mem_of_getElem? hx, h2⟩).symm
      · exact stleT
    · refine sq43 ?_
      refine ⟨j + 1, ⟨by omega, ?_⟩, by omega, ?_⟩
      · rw [List.take_add_one, hx, List.any_append, ht]
        simp [h2]
      · exact sgoT
  · refine sq8 ?_
    apply aend; exact resT
    · simp at h1
      rw [List.take_of_length_le (by omega)] at ht
      exact ⟨-1, rfl, by rw [ht]; rfl, rfl⟩
    · exact stleT
theorem ctf_im {f : FuncId} {caps : List AV} {σ : Sto} {p : Im → Bool} {ok : Im → Prop} (hp : TellsA Tryz.prog f caps σ (fun x => .agg (encIm x)) p ok) (l : List Im) (hok : ∀ x ∈ l, ok x) : SCall Tryz.prog 231 [.ro 3 (l.map encIm) .any, .fn (.func f) [] caps] σ (fun x σ' => x = .bool (l.any p) ∧ σ' = σ) := by
  refine scall_of (n := 9) (ks := [0, 1, 4]) Tryz.func231 rfl rfl (Nat.le_of_ble_eq_true rfl) ?_
  refine sq52 ?_
  refine cw σ Tryz.call247 (ixf_im hp l hok) rfl ?_ ?_ ?_
  · exact argsleT
  · exact fun _ h => h
  rintro x σ' ⟨m, rfl, hm, rfl⟩ -
  rw [sdrop_all, List.append_nil]
  refine sq45 ?_
  apply aend; exact resT
  · exact ⟨by simp only [resAV]; rw [← hm], rfl⟩
  · exact stleT
theorem nt_im {f : FuncId} {p : Im → Bool} {ok : Im → Prop} (hp : TellsA Tryz.prog f [] [] (fun x => .agg (encIm x)) p ok) (r : Nat) : TellsA Tryz.prog 232 [.ptr r 0] [(r, .box 227 [.fn (.func f) [] []])] (fun x => .agg (encIm x)) (fun x => !p x) ok := by
    refine ⟨Tryz.call232, fun x hx => ?_⟩
    refine scall_of (n := 8) (ks := [0, 1, 2, 3]) Tryz.func232 rfl rfl (Nat.le_of_ble_eq_true rfl) ?_
    refine sq3 ?_
    apply bx; rfl; rfl; (exact zcT); rfl; refine freshT fun r2 h2 => ?_; repeat rcases h2 with ⟨_, h2⟩
    refine sq25 ?_
    refine z60 ?_
    refine z99 ?_
    refine cf_ [] rfl hp.1 (hp.2 x hx) rfl argsleT stleT ?_
    rintro _ σ' ⟨rfl, rfl⟩ h6
    apply rs_sto; exact nflT
    refine sq53 ?_
    apply aend; exact resT
    · exact ⟨rfl, rfl⟩
    · exact stleT
theorem all_im {f : FuncId} {p : Im → Bool} {ok : Im → Prop} (hp : TellsA Tryz.prog f [] [] (fun x => .agg (encIm x)) p ok) (l : List Im) (hok : ∀ x ∈ l, ok x) (most : Int) : SCall Tryz.prog 188 [.ro 3 (l.map encIm) .any, .int .i64 most, .fn (.func f) [] []] [] (fun x σ' => x = .bool (allN l most p) ∧ σ' = []) := by
  refine scall_of (n := 17) (ks := [0, 1, 2, 5, 6]) Tryz.func188 rfl rfl (Nat.le_of_ble_eq_true rfl) ?_
  refine sq3 ?_
  apply bx; rfl; rfl; (exact zcT); rfl; refine freshT fun r5 h5 => ?_; repeat rcases h5 with ⟨_, h5⟩
  refine sq2 ?_
  by_cases hl : (l.length : Int) ≤ most
  · have hE : allN l most p = !(l.any fun x => !p x) := by unfold allN; rw [decide_eq_true hl, List.any_eq_not_all_not]; simp
    have hd : decide ((l.length : Int) ≤ most) = true := by simpa using hl
    refine sq60 ?_
    rw [hd]
    refine sq86 ?_
    refine cw [(r5, .box 227 [.fn (.func f) [] []])] Tryz.call231 (ctf_im (nt_im hp r5) l hok) rfl argsleT stleT ?_
    rintro _ σ' ⟨rfl, rfl⟩ h14
    apply rs_sto; exact nflT
    refine sq54 ?_
    apply aend; exact resT
    · exact ⟨by rw [hE]; rfl, rfl⟩
    · exact stleT
  · have hE : allN l most p = false := by unfold allN; rw [decide_eq_false hl]; rfl
    have hd : decide ((l.length : Int) ≤ most) = false := by simpa using hl
    refine sq60 ?_
    rw [hd]
    refine sq73 ?_
    refine sq54 ?_
    apply aend; exact resT
    · exact ⟨by rw [hE]; rfl, rfl⟩
    · exact stleT
theorem ixf_gl {f : FuncId} {caps : List AV} {σ : Sto} {p : Gl → Bool} {ok : Gl → Prop} (hp : TellsA Tryz.prog f caps σ (fun x => .agg (encGl x)) p ok) (l : List Gl) (hok : ∀ x ∈ l, ok x) : SCall Tryz.prog 250 [.ro 3 (l.map encGl) .any, .fn (.func f) [] caps] σ (fun x σ' => ∃ m : Int, x = .int .i64 m ∧ decide (0 ≤ m) = l.any p ∧ σ' = σ) := by
  refine scall_of (n := 19) (ks := [0, 1, 4, 5, 7, 8, 9, 16]) Tryz.func250 rfl rfl (Nat.le_of_ble_eq_true rfl) ?_
  refine sw_max (i := 0) rfl fun hm => ?_
  rw [List.length_map] at hm
  unfold maxLen at hm
  refine sq97 ?_
  refine lp (β := Nat) (fun j => ⟨[(0, .ro 3 (l.map encGl) .any), (1, .fn (.func f) [] caps), (7, .int .i64 l.length), (8, .int .i64 j)], σ⟩) (fun j => j ≤ l.length ∧ (l.take j).any p = false) (fun j => l.length - j) 0 ?_ ⟨Nat.zero_le _, rfl⟩ ?_
  · exact sgoT
  rintro j ⟨hj, ht⟩
  refine sq40 ?_
  refine sw_cond rfl (fun h1 => ?_) (fun h1 => ?_)
  · have hlt : j < l.length := by simp at h1; omega
    obtain ⟨x, hx⟩ : ∃ x, l[j]? = some x := ⟨_, List.getElem?_eq_getElem hlt⟩
    refine sq94 ?_
    refine sq88 ?_
    refine cf_ σ rfl hp.1 (hp.2 x (hok x (List.mem_of_getElem? hx))) rfl ?_ ?_ ?_
    · exact argsleT
    · exact fun _ h => h
    rintro r σ' ⟨rfl, rfl⟩ -
    rw [sdrop_all, List.append_nil]
    refine sq4 ?_
    refine sw_cond rfl (fun h2 => ?_) (fun h2 => ?_)
    · refine sq29 ?_
      apply aend; exact resT
      · refine ⟨j, rfl, ?_, rfl⟩
        rw [decide_eq_true (by omega)]
        exact (List.any_eq_true.2 ⟨x, List.mem_of_getElem? hx, h2⟩).symm
      · exact stleT
    · refine sq43 ?_
      refine ⟨j + 1, ⟨by omega, ?_⟩, by omega, ?_⟩
      · rw [List.take_add_one, hx, List.any_append, ht]
        simp [h2]
      · exact sgoT
  · refine sq8 ?_
    apply aend; exact resT
    · simp at h1
      rw [List.take_of_length_le (by omega)] at ht
      exact ⟨-1, rfl, by rw [ht]; rfl, rfl⟩
    · exact stleT
theorem ctf_gl {f : FuncId} {caps : List AV} {σ : Sto} {p : Gl → Bool} {ok : Gl → Prop} (hp : TellsA Tryz.prog f caps σ (fun x => .agg (encGl x)) p ok) (l : List Gl) (hok : ∀ x ∈ l, ok x) : SCall Tryz.prog 235 [.ro 3 (l.map encGl) .any, .fn (.func f) [] caps] σ (fun x σ' => x = .bool (l.any p) ∧ σ' = σ) := by
  refine scall_of (n := 9) (ks := [0, 1, 4]) Tryz.func235 rfl rfl (Nat.le_of_ble_eq_true rfl) ?_
  refine sq52 ?_
  refine cw σ Tryz.call250 (ixf_gl hp l hok) rfl ?_ ?_ ?_
  · exact argsleT
  · exact fun _ h => h
  rintro x σ' ⟨m, rfl, hm, rfl⟩ -
  rw [sdrop_all, List.append_nil]
  refine sq45 ?_
  apply aend; exact resT
  · exact ⟨by simp only [resAV]; rw [← hm], rfl⟩
  · exact stleT
theorem nt_gl {f : FuncId} {p : Gl → Bool} {ok : Gl → Prop} (hp : TellsA Tryz.prog f [] [] (fun x => .agg (encGl x)) p ok) (r : Nat) : TellsA Tryz.prog 236 [.ptr r 0] [(r, .box 229 [.fn (.func f) [] []])] (fun x => .agg (encGl x)) (fun x => !p x) ok := by
    refine ⟨Tryz.call236, fun x hx => ?_⟩
    refine scall_of (n := 8) (ks := [0, 1, 2, 3]) Tryz.func236 rfl rfl (Nat.le_of_ble_eq_true rfl) ?_
    refine sq3 ?_
    apply bx; rfl; rfl; (exact zcT); rfl; refine freshT fun r2 h2 => ?_; repeat rcases h2 with ⟨_, h2⟩
    refine sq25 ?_
    refine z60 ?_
    refine z99 ?_
    refine cf_ [] rfl hp.1 (hp.2 x hx) rfl argsleT stleT ?_
    rintro _ σ' ⟨rfl, rfl⟩ h6
    apply rs_sto; exact nflT
    refine sq53 ?_
    apply aend; exact resT
    · exact ⟨rfl, rfl⟩
    · exact stleT
theorem all_gl {f : FuncId} {p : Gl → Bool} {ok : Gl → Prop} (hp : TellsA Tryz.prog f [] [] (fun x => .agg (encGl x)) p ok) (l : List Gl) (hok : ∀ x ∈ l, ok x) (most : Int) : SCall Tryz.prog 192 [.ro 3 (l.map encGl) .any, .int .i64 most, .fn (.func f) [] []] [] (fun x σ' => x = .bool (allN l most p) ∧ σ' = []) := by
  refine scall_of (n := 17) (ks := [0, 1, 2, 5, 6]) Tryz.func192 rfl rfl (Nat.le_of_ble_eq_true rfl) ?_
  refine sq3 ?_
  apply bx; rfl; rfl; (exact zcT); rfl; refine freshT fun r5 h5 => ?_; repeat rcases h5 with ⟨_, h5⟩
  refine sq2 ?_
  by_cases hl : (l.length : Int) ≤ most
  · have hE : allN l most p = !(l.any fun x => !p x) := by unfold allN; rw [decide_eq_true hl, List.any_eq_not_all_not]; simp
    have hd : decide ((l.length : Int) ≤ most) = true := by simpa using hl
    refine sq60 ?_
    rw [hd]
    refine sq86 ?_
    refine cw [(r5, .box 229 [.fn (.func f) [] []])] Tryz.call235 (ctf_gl (nt_gl hp r5) l hok) rfl argsleT stleT ?_
    rintro _ σ' ⟨rfl, rfl⟩ h14
    apply rs_sto; exact nflT
    refine sq54 ?_
    apply aend; exact resT
    · exact ⟨by rw [hE]; rfl, rfl⟩
    · exact stleT
  · have hE : allN l most p = false := by unfold allN; rw [decide_eq_false hl]; rfl
    have hd : decide ((l.length : Int) ≤ most) = false := by simpa using hl
    refine sq60 ?_
    rw [hd]
    refine sq73 ?_
    refine sq54 ?_
    apply aend; exact resT
    · exact ⟨by rw [hE]; rfl, rfl⟩
    · exact stleT
theorem ixf_ex {f : FuncId} {caps : List AV} {σ : Sto} {p : Ex → Bool} {ok : Ex → Prop} (hp : TellsA Tryz.prog f caps σ (fun x => .agg (encEx x)) p ok) (l : List Ex) (hok : ∀ x ∈ l, ok x) : SCall Tryz.prog 251 [.ro 2 (l.map encEx) .any, .fn (.func f) [] caps] σ (fun x σ' => ∃ m : Int, x = .int .i64 m ∧ decide (0 ≤ m) = l.any p ∧ σ' = σ) := by
  refine scall_of (n := 19) (ks := [0, 1, 4, 5, 7, 8, 9, 16]) Tryz.func251 rfl rfl (Nat.le_of_ble_eq_true rfl) ?_
  refine sw_max (i := 0) rfl fun hm => ?_
  rw [List.length_map] at hm
  unfold maxLen at hm
  refine sq97 ?_
  refine lp (β := Nat) (fun j => ⟨[(0, .ro 2 (l.map encEx) .any), (1, .fn (.func f) [] caps), (7, .int .i64 l.length), (8, .int .i64 j)], σ⟩) (fun j => j ≤ l.length ∧ (l.take j).any p = false) (fun j => l.length - j) 0 ?_ ⟨Nat.zero_le _, rfl⟩ ?_
  · exact sgoT
  rintro j ⟨hj, ht⟩
  refine sq40 ?_
  refine sw_cond rfl (fun h1 => ?_) (fun h1 => ?_)
  · have hlt : j < l.length := by simp at h1; omega
    obtain ⟨x, hx⟩ : ∃ x, l[j]? = some x := ⟨_, List.getElem?_eq_getElem hlt⟩
    refine sq94 ?_
    refine sq88 ?_
    refine cf_ σ rfl hp.1 (hp.2 x (hok x (List.mem_of_getElem? hx))) rfl ?_ ?_ ?_
    · exact argsleT
    · exact fun _ h => h
    rintro r σ' ⟨rfl, rfl⟩ -
    rw [sdrop_all, List.append_nil]
    refine sq4 ?_
    refine sw_cond rfl (fun h2 => ?_) (fun h2 => ?_)
    · refine sq29 ?_
      apply aend; exact resT
      · refine ⟨j, rfl, ?_, rfl⟩
        rw [decide_eq_true (by omega)]
        exact (List.any_eq_true.2 ⟨x, List.mem_of_getElem? hx, h2⟩).symm
      · exact stleT
    · refine sq43 ?_
      refine ⟨j + 1, ⟨by omega, ?_⟩, by omega, ?_⟩
      · rw [List.take_add_one, hx, List.any_append, ht]
        simp [h2]
      · exact sgoT
  · refine sq8 ?_
    apply aend; exact resT
    · simp at h1
      rw [List.take_of_length_le (by omega)] at ht
      exact ⟨-1, rfl, by rw [ht]; rfl, rfl⟩
    · exact stleT
theorem ctf_ex {f : FuncId} {caps : List AV} {σ : Sto} {p : Ex → Bool} {ok : Ex → Prop} (hp : TellsA Tryz.prog f caps σ (fun x => .agg (encEx x)) p ok) (l : List Ex) (hok : ∀ x ∈ l, ok x) : SCall Tryz.prog 237 [.ro 2 (l.map encEx) .any, .fn (.func f) [] caps] σ (fun x σ' => x = .bool (l.any p) ∧ σ' = σ) := by
  refine scall_of (n := 9) (ks := [0, 1, 4]) Tryz.func237 rfl rfl (Nat.le_of_ble_eq_true rfl) ?_
  refine sq52 ?_
  refine cw σ Tryz.call251 (ixf_ex hp l hok) rfl ?_ ?_ ?_
  · exact argsleT
  · exact fun _ h => h
  rintro x σ' ⟨m, rfl, hm, rfl⟩ -
  rw [sdrop_all, List.append_nil]
  refine sq45 ?_
  apply aend; exact resT
  · exact ⟨by simp only [resAV]; rw [← hm], rfl⟩
  · exact stleT
theorem nt_ex {f : FuncId} {p : Ex → Bool} {ok : Ex → Prop} (hp : TellsA Tryz.prog f [] [] (fun x => .agg (encEx x)) p ok) (r : Nat) : TellsA Tryz.prog 238 [.ptr r 0] [(r, .box 231 [.fn (.func f) [] []])] (fun x => .agg (encEx x)) (fun x => !p x) ok := by
    refine ⟨Tryz.call238, fun x hx => ?_⟩
    refine scall_of (n := 8) (ks := [0, 1, 2, 3]) Tryz.func238 rfl rfl (Nat.le_of_ble_eq_true rfl) ?_
    refine sq3 ?_
    apply bx; rfl; rfl; (exact zcT); rfl; refine freshT fun r2 h2 => ?_; repeat rcases h2 with ⟨_, h2⟩
    refine sq25 ?_
    refine z60 ?_
    refine z99 ?_
    refine cf_ [] rfl hp.1 (hp.2 x hx) rfl argsleT stleT ?_
    rintro _ σ' ⟨rfl, rfl⟩ h6
    apply rs_sto; exact nflT
    refine sq53 ?_
    apply aend; exact resT
    · exact ⟨rfl, rfl⟩
    · exact stleT
theorem all_ex {f : FuncId} {p : Ex → Bool} {ok : Ex → Prop} (hp : TellsA Tryz.prog f [] [] (fun x => .agg (encEx x)) p ok) (l : List Ex) (hok : ∀ x ∈ l, ok x) (most : Int) : SCall Tryz.prog 195 [.ro 2 (l.map encEx) .any, .int .i64 most, .fn (.func f) [] []] [] (fun x σ' => x = .bool (allN l most p) ∧ σ' = []) := by
  refine scall_of (n := 17) (ks := [0, 1, 2, 5, 6]) Tryz.func195 rfl rfl (Nat.le_of_ble_eq_true rfl) ?_
  refine sq3 ?_
  apply bx; rfl; rfl; (exact zcT); rfl; refine freshT fun r5 h5 => ?_; repeat rcases h5 with ⟨_, h5⟩
  refine sq2 ?_
  by_cases hl : (l.length : Int) ≤ most
  · have hE : allN l most p = !(l.any fun x => !p x) := by unfold allN; rw [decide_eq_true hl, List.any_eq_not_all_not]; simp
    have hd : decide ((l.length : Int) ≤ most) = true := by simpa using hl
    refine sq60 ?_
    rw [hd]
    refine sq86 ?_
    refine cw [(r5, .box 231 [.fn (.func f) [] []])] Tryz.call237 (ctf_ex (nt_ex hp r5) l hok) rfl argsleT stleT ?_
    rintro _ σ' ⟨rfl, rfl⟩ h14
    apply rs_sto; exact nflT
    refine sq54 ?_
    apply aend; exact resT
    · exact ⟨by rw [hE]; rfl, rfl⟩
    · exact stleT
  · have hE : allN l most p = false := by unfold allN; rw [decide_eq_false hl]; rfl
    have hd : decide ((l.length : Int) ≤ most) = false := by simpa using hl
    refine sq60 ?_
    rw [hd]
    refine sq73 ?_
    refine sq54 ?_
    apply aend; exact resT
    · exact ⟨by rw [hE]; rfl, rfl⟩
    · exact stleT
theorem ixf_el {f : FuncId} {caps : List AV} {σ : Sto} {p : El → Bool} {ok : El → Prop} (hp : TellsA Tryz.prog f caps σ (fun x => .agg (encEl x)) p ok) (l : List El) (hok : ∀ x ∈ l, ok x) : SCall Tryz.prog 252 [.ro 2 (l.map encEl) .any, .fn (.func f) [] caps] σ (fun x σ' => ∃ m : Int, x = .int .i64 m ∧ decide (0 ≤ m) = l.any p ∧ σ' = σ) := by
  refine scall_of (n := 19) (ks := [0, 1, 4, 5, 7, 8, 9, 16]) Tryz.func252 rfl rfl (Nat.le_of_ble_eq_true rfl) ?_
  refine sw_max (i := 0) rfl fun hm => ?_
  rw [List.length_map] at hm
  unfold maxLen at hm
  refine sq97 ?_
  refine lp (β := Nat) (fun j => ⟨[(0, .ro 2 (l.map encEl) .any), (1, .fn (.func f) [] caps), (7, .int .i64 l.length), (8, .int .i64 j)], σ⟩) (fun j => j ≤ l.length ∧ (l.take j).any p = false) (fun j => l.length - j) 0 ?_ ⟨Nat.zero_le _, rfl⟩ ?_
  · exact sgoT
  rintro j ⟨hj, ht⟩
  refine sq40 ?_
  refine sw_cond rfl (fun h1 => ?_) (fun h1 => ?_)
  · have hlt : j < l.length := by simp at h1; omega
    obtain ⟨x, hx⟩ : ∃ x, l[j]? = some x := ⟨_, List.getElem?_eq_getElem hlt⟩
    refine sq94 ?_
    refine sq88 ?_
    refine cf_ σ rfl hp.1 (hp.2 x (hok x (List.mem_of_getElem? hx))) rfl ?_ ?_ ?_
    · exact argsleT
    · exact fun _ h => h
    rintro r σ' ⟨rfl, rfl⟩ -
    rw [sdrop_all, List.append_nil]
    refine sq4 ?_
    refine sw_cond rfl (fun h2 => ?_) (fun h2 => ?_)
    · refine sq29 ?_
      apply aend; exact resT
      · refine ⟨j, rfl, ?_, rfl⟩
        rw [decide_eq_true (by omega)]
        exact (List.any_eq_true.2 ⟨x, List.mem_of_getElem? hx, h2⟩).symm
      · exact stleT
    · refine sq43 ?_
      refine ⟨j + 1, ⟨by omega, ?_⟩, by omega, ?_⟩
      · rw [List.take_add_one, hx, List.any_append, ht]
        simp [h2]
      · exact sgoT
  · refine sq8 ?_
    apply aend; exact resT
    · simp at h1
      rw [List.take_of_length_le (by omega)] at ht
      exact ⟨-1, rfl, by rw [ht]; rfl, rfl⟩
    · exact stleT
theorem ctf_el {f : FuncId} {caps : List AV} {σ : Sto} {p : El → Bool} {ok : El → Prop} (hp : TellsA Tryz.prog f caps σ (fun x => .agg (encEl x)) p ok) (l : List El) (hok : ∀ x ∈ l, ok x) : SCall Tryz.prog 239 [.ro 2 (l.map encEl) .any, .fn (.func f) [] caps] σ (fun x σ' => x = .bool (l.any p) ∧ σ' = σ) := by
  refine scall_of (n := 9) (ks := [0, 1, 4]) Tryz.func239 rfl rfl (Nat.le_of_ble_eq_true rfl) ?_
  refine sq52 ?_
  refine cw σ Tryz.call252 (ixf_el hp l hok) rfl ?_ ?_ ?_
  · exact argsleT
  · exact fun _ h => h
  rintro x σ' ⟨m, rfl, hm, rfl⟩ -
  rw [sdrop_all, List.append_nil]
  refine sq45 ?_
  apply aend; exact resT
  · exact ⟨by simp only [resAV]; rw [← hm], rfl⟩
  · exact stleT
theorem nt_el {f : FuncId} {p : El → Bool} {ok : El → Prop} (hp : TellsA Tryz.prog f [] [] (fun x => .agg (encEl x)) p ok) (r : Nat) : TellsA Tryz.prog 240 [.ptr r 0] [(r, .box 233 [.fn (.func f) [] []])] (fun x => .agg (encEl x)) (fun x => !p x) ok := by
    refine ⟨Tryz.call240, fun x hx => ?_⟩
    refine scall_of (n := 8) (ks := [0, 1, 2, 3]) Tryz.func240 rfl rfl (Nat.le_of_ble_eq_true rfl) ?_
    refine sq3 ?_
    apply bx; rfl; rfl; (exact zcT); rfl; refine freshT fun r2 h2 => ?_; repeat rcases h2 with ⟨_, h2⟩
    refine sq25 ?_
    refine z60 ?_
    refine z99 ?_
    refine cf_ [] rfl hp.1 (hp.2 x hx) rfl argsleT stleT ?_
    rintro _ σ' ⟨rfl, rfl⟩ h6
    apply rs_sto; exact nflT
    refine sq53 ?_
    apply aend; exact resT
    · exact ⟨rfl, rfl⟩
    · exact stleT
theorem all_el {f : FuncId} {p : El → Bool} {ok : El → Prop} (hp : TellsA Tryz.prog f [] [] (fun x => .agg (encEl x)) p ok) (l : List El) (hok : ∀ x ∈ l, ok x) (most : Int) : SCall Tryz.prog 197 [.ro 2 (l.map encEl) .any, .int .i64 most, .fn (.func f) [] []] [] (fun x σ' => x = .bool (allN l most p) ∧ σ' = []) := by
  refine scall_of (n := 17) (ks := [0, 1, 2, 5, 6]) Tryz.func197 rfl rfl (Nat.le_of_ble_eq_true rfl) ?_
  refine sq3 ?_
  apply bx; rfl; rfl; (exact zcT); rfl; refine freshT fun r5 h5 => ?_; repeat rcases h5 with ⟨_, h5⟩
  refine sq2 ?_
  by_cases hl : (l.length : Int) ≤ most
  · have hE : allN l most p = !(l.any fun x => !p x) := by unfold allN; rw [decide_eq_true hl, List.any_eq_not_all_not]; simp
    have hd : decide ((l.length : Int) ≤ most) = true := by simpa using hl
    refine sq60 ?_
    rw [hd]
    refine sq86 ?_
    refine cw [(r5, .box 233 [.fn (.func f) [] []])] Tryz.call239 (ctf_el (nt_el hp r5) l hok) rfl argsleT stleT ?_
    rintro _ σ' ⟨rfl, rfl⟩ h14
    apply rs_sto; exact nflT
    refine sq54 ?_
    apply aend; exact resT
    · exact ⟨by rw [hE]; rfl, rfl⟩
    · exact stleT
  · have hE : allN l most p = false := by unfold allN; rw [decide_eq_false hl]; rfl
    have hd : decide ((l.length : Int) ≤ most) = false := by simpa using hl
    refine sq60 ?_
    rw [hd]
    refine sq73 ?_
    refine sq54 ?_
    apply aend; exact resT
    · exact ⟨by rw [hE]; rfl, rfl⟩
    · exact stleT
theorem ixf_co {f : FuncId} {caps : List AV} {σ : Sto} {p : Co → Bool} {ok : Co → Prop} (hp : TellsA Tryz.prog f caps σ (fun x => .agg (encCo x)) p ok) (l : List Co) (hok : ∀ x ∈ l, ok x) : SCall Tryz.prog 226 [.ro 2 (l.map encCo) .any, .fn (.func f) [] caps] σ (fun x σ' => ∃ m : Int, x = .int .i64 m ∧ decide (0 ≤ m) = l.any p ∧ σ' = σ) := by
  refine scall_of (n := 19) (ks := [0, 1, 4, 5, 7, 8, 9, 16]) Tryz.func226 rfl rfl (Nat.le_of_ble_eq_true rfl) ?_
  refine sw_max (i := 0) rfl fun hm => ?_
  rw [List.length_map] at hm
  unfold maxLen at hm
  refine sq97 ?_
  refine lp (β := Nat) (fun j => ⟨[(0, .ro 2 (l.map encCo) .any), (1, .fn (.func f) [] caps), (7, .int .i64 l.length), (8, .int .i64 j)], σ⟩) (fun j => j ≤ l.length ∧ (l.take j).any p = false) (fun j => l.length - j) 0 ?_ ⟨Nat.zero_le _, rfl⟩ ?_
  · exact sgoT
  rintro j ⟨hj, ht⟩
  refine sq40 ?_
  refine sw_cond rfl (fun h1 => ?_) (fun h1 => ?_)
  · have hlt : j < l.length := by simp at h1; omega
    obtain ⟨x, hx⟩ : ∃ x, l[j]? = some x := ⟨_, List.getElem?_eq_getElem hlt⟩
    refine sq94 ?_
    refine sq88 ?_
    refine cf_ σ rfl hp.1 (hp.2 x (hok x (List.mem_of_getElem? hx))) rfl ?_ ?_ ?_
    · exact argsleT
    · exact fun _ h => h
    rintro r σ' ⟨rfl, rfl⟩ -
    rw [sdrop_all, List.append_nil]
    refine sq4 ?_
    refine sw_cond rfl (fun h2 => ?_) (fun h2 => ?_)
    · refine sq29 ?_
      apply aend; exact resT
      · refine ⟨j, rfl, ?_, rfl⟩
        rw [decide_eq_true (by omega)]
        exact (List.any_eq_true.2 ⟨x, List.mem_of_getElem? hx, h2⟩).symm
      · exact stleT
    · refine sq43 ?_
      refine ⟨j + 1, ⟨by omega, ?_⟩, by omega, ?_⟩
      · rw [List.take_add_one, hx, List.any_append, ht]
        simp [h2]
      · exact sgoT
  · refine sq8 ?_
    apply aend; exact resT
    · simp at h1
      rw [List.take_of_length_le (by omega)] at ht
      exact ⟨-1, rfl, by rw [ht]; rfl, rfl⟩
    · exact stleT
theorem ctf_co {f : FuncId} {caps : List AV} {σ : Sto} {p : Co → Bool} {ok : Co → Prop} (hp : TellsA Tryz.prog f caps σ (fun x => .agg (encCo x)) p ok) (l : List Co) (hok : ∀ x ∈ l, ok x) : SCall Tryz.prog 176 [.ro 2 (l.map encCo) .any, .fn (.func f) [] caps] σ (fun x σ' => x = .bool (l.any p) ∧ σ' = σ) := by
  refine scall_of (n := 9) (ks := [0, 1, 4]) Tryz.func176 rfl rfl (Nat.le_of_ble_eq_true rfl) ?_
  refine sq52 ?_
  refine cw σ Tryz.call226 (ixf_co hp l hok) rfl ?_ ?_ ?_
  · exact argsleT
  · exact fun _ h => h
  rintro x σ' ⟨m, rfl, hm, rfl⟩ -
  rw [sdrop_all, List.append_nil]
  refine sq45 ?_
  apply aend; exact resT
  · exact ⟨by simp only [resAV]; rw [← hm], rfl⟩
  · exact stleT
theorem nt_co {f : FuncId} {p : Co → Bool} {ok : Co → Prop} (hp : TellsA Tryz.prog f [] [] (fun x => .agg (encCo x)) p ok) (r : Nat) : TellsA Tryz.prog 177 [.ptr r 0] [(r, .box 159 [.fn (.func f) [] []])] (fun x => .agg (encCo x)) (fun x => !p x) ok := by
    refine ⟨Tryz.call177, fun x hx => ?_⟩
    refine scall_of (n := 8) (ks := [0, 1, 2, 3]) Tryz.func177 rfl rfl (Nat.le_of_ble_eq_true rfl) ?_
    refine sq3 ?_
    apply bx; rfl; rfl; (exact zcT); rfl; refine freshT fun r2 h2 => ?_; repeat rcases h2 with ⟨_, h2⟩
    refine sq25 ?_
    refine z60 ?_
    refine z99 ?_
    refine cf_ [] rfl hp.1 (hp.2 x hx) rfl argsleT stleT ?_
    rintro _ σ' ⟨rfl, rfl⟩ h6
    apply rs_sto; exact nflT
    refine sq53 ?_
    apply aend; exact resT
    · exact ⟨rfl, rfl⟩
    · exact stleT
theorem all_co {f : FuncId} {p : Co → Bool} {ok : Co → Prop} (hp : TellsA Tryz.prog f [] [] (fun x => .agg (encCo x)) p ok) (l : List Co) (hok : ∀ x ∈ l, ok x) (most : Int) : SCall Tryz.prog 99 [.ro 2 (l.map encCo) .any, .int .i64 most, .fn (.func f) [] []] [] (fun x σ' => x = .bool (allN l most p) ∧ σ' = []) := by
  refine scall_of (n := 17) (ks := [0, 1, 2, 5, 6]) Tryz.func99 rfl rfl (Nat.le_of_ble_eq_true rfl) ?_
  refine sq3 ?_
  apply bx; rfl; rfl; (exact zcT); rfl; refine freshT fun r5 h5 => ?_; repeat rcases h5 with ⟨_, h5⟩
  refine sq2 ?_
  by_cases hl : (l.length : Int) ≤ most
  · have hE : allN l most p = !(l.any fun x => !p x) := by unfold allN; rw [decide_eq_true hl, List.any_eq_not_all_not]; simp
    have hd : decide ((l.length : Int) ≤ most) = true := by simpa using hl
    refine sq60 ?_
    rw [hd]
    refine sq86 ?_
    refine cw [(r5, .box 159 [.fn (.func f) [] []])] Tryz.call176 (ctf_co (nt_co hp r5) l hok) rfl argsleT stleT ?_
    rintro _ σ' ⟨rfl, rfl⟩ h14
    apply rs_sto; exact nflT
    refine sq54 ?_
    apply aend; exact resT
    · exact ⟨by rw [hE]; rfl, rfl⟩
    · exact stleT
  · have hE : allN l most p = false := by unfold allN; rw [decide_eq_false hl]; rfl
    have hd : decide ((l.length : Int) ≤ most) = false := by simpa using hl
    refine sq60 ?_
    rw [hd]
    refine sq73 ?_
    refine sq54 ?_
    apply aend; exact resT
    · exact ⟨by rw [hE]; rfl, rfl⟩
    · exact stleT
theorem ixf_da {f : FuncId} {caps : List AV} {σ : Sto} {p : Da → Bool} {ok : Da → Prop} (hp : TellsA Tryz.prog f caps σ (fun x => .agg (encDa x)) p ok) (l : List Da) (hok : ∀ x ∈ l, ok x) : SCall Tryz.prog 253 [.ro 2 (l.map encDa) .any, .fn (.func f) [] caps] σ (fun x σ' => ∃ m : Int, x = .int .i64 m ∧ decide (0 ≤ m) = l.any p ∧ σ' = σ) := by
  refine scall_of (n := 19) (ks := [0, 1, 4, 5, 7, 8, 9, 16]) Tryz.func253 rfl rfl (Nat.le_of_ble_eq_true rfl) ?_
  refine sw_max (i := 0) rfl fun hm => ?_
  rw [List.length_map] at hm
  unfold maxLen at hm
  refine sq97 ?_
  refine lp (β := Nat) (fun j => ⟨[(0, .ro 2 (l.map encDa) .any), (1, .fn (.func f) [] caps), (7, .int .i64 l.length), (8, .int .i64 j)], σ⟩) (fun j => j ≤ l.length ∧ (l.take j).any p = false) (fun j => l.length - j) 0 ?_ ⟨Nat.zero_le _, rfl⟩ ?_
  · exact sgoT
  rintro j ⟨hj, ht⟩
  refine sq40 ?_
  refine sw_cond rfl (fun h1 => ?_) (fun h1 => ?_)
  · have hlt : j < l.length := by simp at h1; omega
    obtain ⟨x, hx⟩ : ∃ x, l[j]? = some x := ⟨_, List.getElem?_eq_getElem hlt⟩
    refine sq94 ?_
    refine sq88 ?_
    refine cf_ σ rfl hp.1 (hp.2 x (hok x (List.mem_of_getElem? hx))) rfl ?_ ?_ ?_
    · exact argsleT
    · exact fun _ h => h
    rintro r σ' ⟨rfl, rfl⟩ -
    rw [sdrop_all, List.append_nil]
    refine sq4 ?_
    refine sw_cond rfl (fun h2 => ?_) (fun h2 => ?_)
    · refine sq29 ?_
      apply aend; exact resT
      · refine ⟨j, rfl, ?_, rfl⟩
        rw [decide_eq_true (by omega)]
        exact (List.any_eq_true.2 ⟨x, List.mem_of_getElem? hx, h2⟩).symm
      · exact stleT
    · refine sq43 ?_
      refine ⟨j + 1, ⟨by omega, ?_⟩, by omega, ?_⟩
      · rw [List.take_add_one, hx, List.any_append, ht]
        simp [h2]
      · exact sgoT
  · refine sq8 ?_
    apply aend; exact resT
    · simp at h1
      rw [List.take_of_length_le (by omega)] at ht
      exact ⟨-1, rfl, by rw [ht]; rfl, rfl⟩
    · exact stleT
theorem ctf_da {f : FuncId} {caps : List AV} {σ : Sto} {p : Da → Bool} {ok : Da → Prop} (hp : TellsA Tryz.prog f caps σ (fun x => .agg (encDa x)) p ok) (l : List Da) (hok : ∀ x ∈ l, ok x) : SCall Tryz.prog 241 [.ro 2 (l.map encDa) .any, .fn (.func f) [] caps] σ (fun x σ' => x = .bool (l.any p) ∧ σ' = σ) := by
  refine scall_of (n := 9) (ks := [0, 1, 4]) Tryz.func241 rfl rfl (Nat.le_of_ble_eq_true rfl) ?_
  refine sq52 ?_
  refine cw σ Tryz.call253 (ixf_da hp l hok) rfl ?_ ?_ ?_
  · exact argsleT
  · exact fun _ h => h
  rintro x σ' ⟨m, rfl, hm, rfl⟩ -
  rw [sdrop_all, List.append_nil]
  refine sq45 ?_
  apply aend; exact resT
  · exact ⟨by simp only [resAV]; rw [← hm], rfl⟩
  · exact stleT
theorem nt_da {f : FuncId} {p : Da → Bool} {ok : Da → Prop} (hp : TellsA Tryz.prog f [] [] (fun x => .agg (encDa x)) p ok) (r : Nat) : TellsA Tryz.prog 242 [.ptr r 0] [(r, .box 235 [.fn (.func f) [] []])] (fun x => .agg (encDa x)) (fun x => !p x) ok := by
    refine ⟨Tryz.call242, fun x hx => ?_⟩
    refine scall_of (n := 8) (ks := [0, 1, 2, 3]) Tryz.func242 rfl rfl (Nat.le_of_ble_eq_true rfl) ?_
    refine sq3 ?_
    apply bx; rfl; rfl; (exact zcT); rfl; refine freshT fun r2 h2 => ?_; repeat rcases h2 with ⟨_, h2⟩
    refine sq25 ?_
    refine z60 ?_
    refine z99 ?_
    refine cf_ [] rfl hp.1 (hp.2 x hx) rfl argsleT stleT ?_
    rintro _ σ' ⟨rfl, rfl⟩ h6
    apply rs_sto; exact nflT
    refine sq53 ?_
    apply aend; exact resT
    · exact ⟨rfl, rfl⟩
    · exact stleT
theorem all_da {f : FuncId} {p : Da → Bool} {ok : Da → Prop} (hp : TellsA Tryz.prog f [] [] (fun x => .agg (encDa x)) p ok) (l : List Da) (hok : ∀ x ∈ l, ok x) (most : Int) : SCall Tryz.prog 200 [.ro 2 (l.map encDa) .any, .int .i64 most, .fn (.func f) [] []] [] (fun x σ' => x = .bool (allN l most p) ∧ σ' = []) := by
  refine scall_of (n := 17) (ks := [0, 1, 2, 5, 6]) Tryz.func200 rfl rfl (Nat.le_of_ble_eq_true rfl) ?_
  refine sq3 ?_
  apply bx; rfl; rfl; (exact zcT); rfl; refine freshT fun r5 h5 => ?_; repeat rcases h5 with ⟨_, h5⟩
  refine sq2 ?_
  by_cases hl : (l.length : Int) ≤ most
  · have hE : allN l most p = !(l.any fun x => !p x) := by unfold allN; rw [decide_eq_true hl, List.any_eq_not_all_not]; simp
    have hd : decide ((l.length : Int) ≤ most) = true := by simpa using hl
    refine sq60 ?_
    rw [hd]
    refine sq86 ?_
    refine cw [(r5, .box 235 [.fn (.func f) [] []])] Tryz.call241 (ctf_da (nt_da hp r5) l hok) rfl argsleT stleT ?_
    rintro _ σ' ⟨rfl, rfl⟩ h14
    apply rs_sto; exact nflT
    refine sq54 ?_
    apply aend; exact resT
    · exact ⟨by rw [hE]; rfl, rfl⟩
    · exact stleT
  · have hE : allN l most p = false := by unfold allN; rw [decide_eq_false hl]; rfl
    have hd : decide ((l.length : Int) ≤ most) = false := by simpa using hl
    refine sq60 ?_
    rw [hd]
    refine sq73 ?_
    refine sq54 ?_
    apply aend; exact resT
    · exact ⟨by rw [hE]; rfl, rfl⟩
    · exact stleT
theorem ixf_ins {f : FuncId} {caps : List AV} {σ : Sto} {p : Ins → Bool} {ok : Ins → Prop} (hp : TellsA Tryz.prog f caps σ (fun x => .agg (iv .any x)) p ok) (l : List Ins) (hok : ∀ x ∈ l, ok x) : SCall Tryz.prog 228 [.ro 4 (l.map (iv .any)) .any, .fn (.func f) [] caps] σ (fun x σ' => ∃ m : Int, x = .int .i64 m ∧ decide (0 ≤ m) = l.any p ∧ σ' = σ) := by
  refine scall_of (n := 19) (ks := [0, 1, 4, 5, 7, 8, 9, 16]) Tryz.func228 rfl rfl (Nat.le_of_ble_eq_true rfl) ?_
  refine sw_max (i := 0) rfl fun hm => ?_
  rw [List.length_map] at hm
  unfold maxLen at hm
  refine sq97 ?_
  refine lp (β := Nat) (fun j => ⟨[(0, .ro 4 (l.map (iv .any)) .any), (1, .fn (.func f) [] caps), (7, .int .i64 l.length), (8, .int .i64 j)], σ⟩) (fun j => j ≤ l.length ∧ (l.take j).any p = false) (fun j => l.length - j) 0 ?_ ⟨Nat.zero_le _, rfl⟩ ?_
  · exact sgoT
  rintro j ⟨hj, ht⟩
  refine sq40 ?_
  refine sw_cond rfl (fun h1 => ?_) (fun h1 => ?_)
  · have hlt : j < l.length := by simp at h1; omega
    obtain ⟨x, hx⟩ : ∃ x, l[j]? = some x := ⟨_, List.getElem?_eq_getElem hlt⟩
    refine sq94 ?_
    refine sq88 ?_
    refine cf_ σ rfl hp.1 (hp.2 x (hok x (List.mem_of_getElem? hx))) rfl ?_ ?_ ?_
    · exact argsleT
    · exact fun _ h => h
    rintro r σ' ⟨rfl, rfl⟩ -
    rw [sdrop_all, List.append_nil]
    refine sq4 ?_
    refine sw_cond rfl (fun h2 => ?_) (fun h2 => ?_)
    · refine sq29 ?_
      apply aend; exact resT
      · refine ⟨j, rfl, ?_, rfl⟩
        rw [decide_eq_true (by omega)]
        exact (List.any_eq_true.2 ⟨x, List.mem_of_getElem? hx, h2⟩).symm
      · exact stleT
    · refine sq43 ?_
      refine ⟨j + 1, ⟨by omega, ?_⟩, by omega, ?_⟩
      · rw [List.take_add_one, hx, List.any_append, ht]
        simp [h2]
      · exact sgoT
  · refine sq8 ?_
    apply aend; exact resT
    · simp at h1
      rw [List.take_of_length_le (by omega)] at ht
      exact ⟨-1, rfl, by rw [ht]; rfl, rfl⟩
    · exact stleT
theorem ctf_ins {f : FuncId} {caps : List AV} {σ : Sto} {p : Ins → Bool} {ok : Ins → Prop} (hp : TellsA Tryz.prog f caps σ (fun x => .agg (iv .any x)) p ok) (l : List Ins) (hok : ∀ x ∈ l, ok x) : SCall Tryz.prog 180 [.ro 4 (l.map (iv .any)) .any, .fn (.func f) [] caps] σ (fun x σ' => x = .bool (l.any p) ∧ σ' = σ) := by
  refine scall_of (n := 9) (ks := [0, 1, 4]) Tryz.func180 rfl rfl (Nat.le_of_ble_eq_true rfl) ?_
  refine sq52 ?_
  refine cw σ Tryz.call228 (ixf_ins hp l hok) rfl ?_ ?_ ?_
  · exact argsleT
  · exact fun _ h => h
  rintro x σ' ⟨m, rfl, hm, rfl⟩ -
  rw [sdrop_all, List.append_nil]
  refine sq45 ?_
  apply aend; exact resT
  · exact ⟨by simp only [resAV]; rw [← hm], rfl⟩
  · exact stleT
theorem nt_ins {f : FuncId} {p : Ins → Bool} {ok : Ins → Prop} (hp : TellsA Tryz.prog f [] [] (fun x => .agg (iv .any x)) p ok) (r : Nat) : TellsA Tryz.prog 181 [.ptr r 0] [(r, .box 89 [.fn (.func f) [] []])] (fun x => .agg (iv .any x)) (fun x => !p x) ok := by
    refine ⟨Tryz.call181, fun x hx => ?_⟩
    refine scall_of (n := 8) (ks := [0, 1, 2, 3]) Tryz.func181 rfl rfl (Nat.le_of_ble_eq_true rfl) ?_
    refine sq3 ?_
    apply bx; rfl; rfl; (exact zcT); rfl; refine freshT fun r2 h2 => ?_; repeat rcases h2 with ⟨_, h2⟩
    refine sq25 ?_
    refine z60 ?_
    refine z99 ?_
    refine cf_ [] rfl hp.1 (hp.2 x hx) rfl argsleT stleT ?_
    rintro _ σ' ⟨rfl, rfl⟩ h6
    apply rs_sto; exact nflT
    refine sq53 ?_
    apply aend; exact resT
    · exact ⟨rfl, rfl⟩
    · exact stleT
theorem all_ins {f : FuncId} {p : Ins → Bool} {ok : Ins → Prop} (hp : TellsA Tryz.prog f [] [] (fun x => .agg (iv .any x)) p ok) (l : List Ins) (hok : ∀ x ∈ l, ok x) (most : Int) : SCall Tryz.prog 103 [.ro 4 (l.map (iv .any)) .any, .int .i64 most, .fn (.func f) [] []] [] (fun x σ' => x = .bool (allN l most p) ∧ σ' = []) := by
  refine scall_of (n := 17) (ks := [0, 1, 2, 5, 6]) Tryz.func103 rfl rfl (Nat.le_of_ble_eq_true rfl) ?_
  refine sq3 ?_
  apply bx; rfl; rfl; (exact zcT); rfl; refine freshT fun r5 h5 => ?_; repeat rcases h5 with ⟨_, h5⟩
  refine sq2 ?_
  by_cases hl : (l.length : Int) ≤ most
  · have hE : allN l most p = !(l.any fun x => !p x) := by unfold allN; rw [decide_eq_true hl, List.any_eq_not_all_not]; simp
    have hd : decide ((l.length : Int) ≤ most) = true := by simpa using hl
    refine sq60 ?_
    rw [hd]
    refine sq86 ?_
    refine cw [(r5, .box 89 [.fn (.func f) [] []])] Tryz.call180 (ctf_ins (nt_ins hp r5) l hok) rfl argsleT stleT ?_
    rintro _ σ' ⟨rfl, rfl⟩ h14
    apply rs_sto; exact nflT
    refine sq54 ?_
    apply aend; exact resT
    · exact ⟨by rw [hE]; rfl, rfl⟩
    · exact stleT
  · have hE : allN l most p = false := by unfold allN; rw [decide_eq_false hl]; rfl
    have hd : decide ((l.length : Int) ≤ most) = false := by simpa using hl
    refine sq60 ?_
    rw [hd]
    refine sq73 ?_
    refine sq54 ?_
    apply aend; exact resT
    · exact ⟨by rw [hE]; rfl, rfl⟩
    · exact stleT
end Go.Proofs.YthhlimmcncbopaaGreat
/-
  Which modules may be, part by part; a module as bytes.
-/
namespace Go.Proofs.YthhlimmcncbopaaGreat
open Go.RowKit Go.ChangeShapes Go.WideShapes Go.ChangeAt Go.Deep
attribute [local irreducible] SW RS RD AThen ABlock
theorem tl_kind : TellsA Tryz.prog 102 [] [] (fun n => .int .i64 n) kdN (fun _ => True) := by
  refine ⟨Tryz.call102, fun k _ => ?_⟩
  refine scall_of (n := 9) (ks := [0, 2]) Tryz.func102 rfl rfl (Nat.le_of_ble_eq_true rfl) ?_
  refine sq62 ?_
  refine sq85 ?_
  refine z112 ?_
  refine z113 ?_
  refine sq2 ?_
  apply aend; exact resT
  · exact ⟨rfl, rfl⟩
  · exact stleT
theorem wasm_small (n : Int) : SCall Tryz.prog 191 [.int .i64 n] [] (fun r σ' => r = .bool (smN_ n) ∧ σ' = []) := by
  refine scall_of (n := 9) (ks := [0, 2]) Tryz.func191 rfl rfl (Nat.le_of_ble_eq_true rfl) ?_
  refine sq62 ?_
  refine lo (lop_geq (E rfl) (E rfl)) rfl ?_
  refine sq10 ?_
  refine z131 ?_
  refine sq31 ?_
  apply aend; exact resT
  · exact ⟨rfl, rfl⟩
  · exact stleT
theorem tl_small : TellsA Tryz.prog 191 [] [] (fun n => .int .i64 n) smN_ (fun _ => True) := ⟨Tryz.call191, fun n _ => wasm_small n⟩
theorem wasm_off (n : Int) : SCall Tryz.prog 199 [.int .i64 n] [] (fun r σ' => r = .bool (offN n) ∧ σ' = []) := by
  refine scall_of (n := 9) (ks := [0, 2]) Tryz.func199 rfl rfl (Nat.le_of_ble_eq_true rfl) ?_
  refine sq62 ?_
  refine lo (lop_geq (E rfl) (E rfl)) rfl ?_
  refine sq10 ?_
  refine z131 ?_
  refine sq31 ?_
  apply aend; exact resT
  · exact ⟨by unfold offN; cases h : decide (-2147483648 ≤ n) <;> simp_all [resAV], rfl⟩
  · exact stleT
def chN (c : Nat) : Bool := decide (32 ≤ c) && decide (c ≤ 126)
theorem tl_char : TellsA Tryz.prog 234 [] [] (fun (n : Nat) => .int .u8 n) chN (fun _ => True) := by
  refine ⟨Tryz.call234, fun k _ => ?_⟩
  refine scall_of (n := 9) (ks := [0, 2]) Tryz.func234 rfl rfl (Nat.le_of_ble_eq_true rfl) ?_
  refine sq62 ?_
  refine lo (lop_geq (E rfl) (E rfl)) rfl ?_
  refine sq10 ?_
  refine z131 ?_
  refine sq31 ?_
  apply aend; exact resT
  · exact ⟨by unfold chN; rw [show decide (32 ≤ k) = decide ((32 : Int) ≤ (k : Int)) from decide_eq_decide.2 (by omega), show decide (k ≤ 126) = decide ((k : Int) ≤ (126 : Int)) from decide_eq_decide.2 (by omega)]; cases h : decide ((32 : Int) ≤ (k : Int)) <;> simp_all [resAV], rfl⟩
  · exact stleT
theorem wasm_limits (l : Li) (a c : Int) : SCall Tryz.prog 106 [.agg (encLi l), .int .i64 a, .int .i64 c] [] (fun r σ' => r = .bool (limN l a c) ∧ σ' = []) := by
  obtain ⟨has, mn, mx⟩ := l
  refine scall_of (n := 38) (ks := [0, 1, 2, 3, 6, 9]) Tryz.func106 rfl rfl (Nat.le_of_ble_eq_true rfl) ?_
  unfold encLi
  refine sq3 ?_
  apply bx; rfl; rfl; (exact zcT); rfl; refine freshT fun r3 h3 => ?_; repeat rcases h3 with ⟨_, h3⟩
  refine sq41 ?_
  refine sq48 ?_
  refine sw_cond rfl (fun g1 => ?_) (fun g1 => ?_)
  · have hE : limN ⟨has, mn, mx⟩ a c = if (mn == 0) = true then (mx == 0) else false := by obtain rfl : has = false := (by simpa using g1); unfold limN; cases h : mn == 0 <;> simp_all
    refine sq63 ?_
    refine sq101 ?_
    refine z112 ?_
    refine sq31 ?_
    apply aend; exact resT
    · exact ⟨by rw [hE]; rfl, rfl⟩
    · exact stleT
  have hE : limN ⟨has, mn, mx⟩ a c = if (if (if decide (0 ≤ mn) = true then decide (mn ≤ a) else false) = true then decide (-1 ≤ mx) else false) = true then decide (mx ≤ c) else false := by obtain rfl : has = true := (by simpa using g1); unfold limN; rw [if_pos rfl]; cases h : decide (0 ≤ mn) <;> cases h2 : decide (mn ≤ a) <;> cases h3 : decide (-1 ≤ mx) <;> rfl
  refine sq63 ?_
  refine lo (lop_geq (E rfl) (E rfl)) rfl ?_
  refine sq50 ?_
  refine z109 ?_
  refine z132 ?_
  refine z68 ?_
  refine sq50 ?_
  refine z123 ?_
  refine z68 ?_
  refine sq50 ?_
  refine z109 ?_
  refine z132 ?_
  refine sq31 ?_
  apply aend; exact resT
  · exact ⟨by rw [hE]; rfl, rfl⟩
  · exact stleT
theorem nm_eq (s : List Nat) : nmN s = if (!decide (s = [])) = true then allN s 16 chN else false := by
  unfold nmN allN chN
  rcases s with _ | ⟨x, s⟩
  · rfl
  · rw [if_pos (by simp), if_pos (by simp), show decide ((x :: s).length ≤ 16) = decide (((x :: s).length : Int) ≤ 16) from decide_eq_decide.2 (by omega)]
theorem wasm_name (s : List Nat) (hs : s.length ≤ 100000) (hlt : ∀ c ∈ s, c < 256) : SCall Tryz.prog 190 [.str (strU s)] [] (fun r σ' => r = .bool (nmN s) ∧ σ' = []) := by
  have hz : ((strU s).toList == (⟨#[]⟩ : ByteArray).toList) = decide (s = []) := strU_inj (m := []) hlt (by simp)
  refine scall_of (n := 10) (ks := [0, 2]) Tryz.func190 rfl rfl (Nat.le_of_ble_eq_true rfl) ?_
  refine sq8 ?_
  by_cases hs : s = []
  · have hd : (!decide (s = [])) = false := by rw [decide_eq_true hs]; rfl
    refine sq1 ?_
    refine lo (lop_sneq (E rfl) (E rfl)) rfl ?_
    rw [hz, hd]
    refine sq10 ?_
    refine ln rfl rfl rfl rfl ?_
    refine ln rfl rfl rfl rfl ?_
    refine sq31 ?_
    apply aend; exact resT
    · exact ⟨by rw [nm_eq, hd]; rfl, rfl⟩
    · exact stleT
  · have hd : (!decide (s = [])) = true := by rw [decide_eq_false hs]; rfl
    refine sq1 ?_
    refine lo (lop_sneq (E rfl) (E rfl)) rfl ?_
    rw [hz, hd]
    refine sq10 ?_
    refine gy rfl rfl ?_
    refine cvb hlt ?_ (by simp [maxLen]; omega)
    refine gy rfl rfl ?_
    refine puA Tryz.call233 (all_u8 tl_char s (fun _ _ => True.intro) 16) rfl pargsT nofT ?_
    refine sq31 ?_
    apply aend; exact resT
    · exact ⟨by rw [nm_eq, hd]; rfl, rfl⟩
    · exact stleT
/-
  Which modules may be: the parts' tests; a module as bytes.
-/
/-- a string's bytes, not too many -/
def StrOk (s : List Nat) : Prop := s.length ≤ 100000 ∧ ∀ c ∈ s, c < 256
/-- what a module's texts and bodies are like -/
structure Md.W (m : Md) : Prop where
  im : ∀ x ∈ m.im, StrOk x.mod ∧ StrOk x.nm
  ex : ∀ x ∈ m.ex, StrOk x.nm
  co : ∀ x ∈ m.co, x.bd.length ≤ 100000
  il : m.im.length ≤ 4294967296
  da : ∀ x ∈ m.da, ∀ c ∈ x.bs, c < 256
theorem ite_and (a b : Bool) : (if a = true then b else false) = (a && b) := by cases a <;> rfl
theorem ints_may (k n : Int) : SCall Tryz.prog 194 [.agg [.int .i64 k, .int .i64 n]] [] (fun r σ' => r = .bool (valN k n) ∧ σ' = []) := by
  refine scall_of (n := 21) (ks := [0, 1, 2]) Tryz.func194 rfl rfl (Nat.le_of_ble_eq_true rfl) ?_
  refine sq3 ?_
  apply bx; rfl; rfl; (exact zcT); rfl; refine freshT fun r1 h1 => ?_; repeat rcases h1 with ⟨_, h1⟩
  refine sq41 ?_
  refine sq101 ?_
  refine z112 ?_
  refine z133 ?_
  refine z134 ?_
  refine z135 ?_
  refine z136 ?_
  refine z137 ?_
  refine z133 ?_
  refine z134 ?_
  refine z135 ?_
  refine z138 ?_
  refine z137 ?_
  refine z113 ?_
  refine sq2 ?_
  apply aend; exact resT
  · exact ⟨by unfold valN; cases h : (k == 2) <;> cases h1 : (k == 1) <;> cases h2 : decide (-2147483648 ≤ n) <;> cases h3 : decide (n ≤ 2147483647) <;> rfl, rfl⟩
  · exact stleT
theorem tl_ft : TellsA Tryz.prog 187 [] [] (fun x => .agg (encFT x)) (fun t => allN t.pr 32 kdN && allN t.rs 1 kdN) (fun _ => True) := by
  refine ⟨Tryz.call187, fun t _ => ?_⟩
  obtain ⟨pr, rs⟩ := t
  refine scall_of (n := 11) (ks := [0, 1, 2]) Tryz.func187 rfl rfl (Nat.le_of_ble_eq_true rfl) ?_
  unfold encFT
  refine sq3 ?_
  apply bx; rfl; rfl; (exact zcT); rfl; refine freshT fun r1 h1 => ?_; repeat rcases h1 with ⟨_, h1⟩
  refine sq41 ?_
  refine puA Tryz.call101 (all_int tl_kind pr (fun _ _ => True.intro) 32) rfl pargsT nofT ?_
  refine sq50 ?_
  refine pugA rfl rfl Tryz.call101 (fun _ => (all_int tl_kind rs (fun _ _ => True.intro) 1)) rfl pargsT nofT ?_
  refine sq31 ?_
  apply aend; exact resT
  · exact ⟨by simp only [resAV]; rw [ite_and], rfl⟩
  · exact stleT
theorem tl_im : TellsA Tryz.prog 189 [] [] (fun x => .agg (encIm x)) (fun x => nmN x.mod && nmN x.nm && smN_ x.ty) (fun x => StrOk x.mod ∧ StrOk x.nm) := by
  refine ⟨Tryz.call189, fun t ht => ?_⟩
  obtain ⟨md, nm, ty⟩ := t
  obtain ⟨⟨h1, h2⟩, h3, h4⟩ := ht
  refine scall_of (n := 16) (ks := [0, 1, 2]) Tryz.func189 rfl rfl (Nat.le_of_ble_eq_true rfl) ?_
  unfold encIm
  refine sq3 ?_
  apply bx; rfl; rfl; (exact zcT); rfl; refine freshT fun r1 h1 => ?_; repeat rcases h1 with ⟨_, h1⟩
  refine sq41 ?_
  refine puA Tryz.call190 (wasm_name md h1 h2) rfl pargsT nofT ?_
  refine sq50 ?_
  refine pugA rfl rfl Tryz.call190 (fun _ => (wasm_name nm h3 h4)) rfl pargsT nofT ?_
  refine z68 ?_
  refine sq50 ?_
  refine pugA rfl rfl Tryz.call191 (fun _ => (wasm_small ty)) rfl pargsT nofT ?_
  refine sq31 ?_
  apply aend; exact resT
  · exact ⟨by dsimp only; cases nmN md <;> cases nmN nm <;> rfl, rfl⟩
  · exact stleT
theorem tl_gl : TellsA Tryz.prog 193 [] [] (fun x => .agg (encGl x)) (fun g => valN g.kd g.n) (fun _ => True) := by
  refine ⟨Tryz.call193, fun t _ => ?_⟩
  obtain ⟨mu, k, n⟩ := t
  refine scall_of (n := 6) (ks := [0, 1, 2]) Tryz.func193 rfl rfl (Nat.le_of_ble_eq_true rfl) ?_
  unfold encGl
  refine sq3 ?_
  apply bx; rfl; rfl; (exact zcT); rfl; refine freshT fun r1 h1 => ?_; repeat rcases h1 with ⟨_, h1⟩
  refine sq25 ?_
  refine z59 ?_
  refine z99 ?_
  refine puA Tryz.call194 (ints_may k n) rfl pargsT nofT ?_
  refine sq2 ?_
  apply aend; exact resT
  · exact ⟨rfl, rfl⟩
  · exact stleT
theorem tl_ex : TellsA Tryz.prog 196 [] [] (fun x => .agg (encEx x)) (fun x => nmN x.nm && smN_ x.fn) (fun x => StrOk x.nm) := by
  refine ⟨Tryz.call196, fun t ht => ?_⟩
  obtain ⟨nm, fn⟩ := t
  obtain ⟨h3, h4⟩ := ht
  refine scall_of (n := 11) (ks := [0, 1, 2]) Tryz.func196 rfl rfl (Nat.le_of_ble_eq_true rfl) ?_
  unfold encEx
  refine sq3 ?_
  apply bx; rfl; rfl; (exact zcT); rfl; refine freshT fun r1 h1 => ?_; repeat rcases h1 with ⟨_, h1⟩
  refine sq41 ?_
  refine puA Tryz.call190 (wasm_name nm h3 h4) rfl pargsT nofT ?_
  refine sq50 ?_
  refine pugA rfl rfl Tryz.call191 (fun _ => (wasm_small fn)) rfl pargsT nofT ?_
  refine sq31 ?_
  apply aend; exact resT
  · exact ⟨by simp only [resAV]; rw [ite_and], rfl⟩
  · exact stleT
theorem tl_el : TellsA Tryz.prog 198 [] [] (fun x => .agg (encEl x)) (fun x => offN x.off && allN x.fs 50 smN_) (fun _ => True) := by
  refine ⟨Tryz.call198, fun t _ => ?_⟩
  obtain ⟨o, fs⟩ := t
  refine scall_of (n := 11) (ks := [0, 1, 2]) Tryz.func198 rfl rfl (Nat.le_of_ble_eq_true rfl) ?_
  unfold encEl
  refine sq3 ?_
  apply bx; rfl; rfl; (exact zcT); rfl; refine freshT fun r1 h1 => ?_; repeat rcases h1 with ⟨_, h1⟩
  refine sq41 ?_
  refine puA Tryz.call199 (wasm_off o) rfl pargsT nofT ?_
  refine sq50 ?_
  refine pugA rfl rfl Tryz.call101 (fun _ => (all_int tl_small fs (fun _ _ => True.intro) 50)) rfl pargsT nofT ?_
  refine sq31 ?_
  apply aend; exact resT
  · exact ⟨by simp only [resAV]; rw [ite_and], rfl⟩
  · exact stleT
theorem tl_da : TellsA Tryz.prog 201 [] [] (fun x => .agg (encDa x)) (fun x => offN x.off && decide (x.bs.length ≤ 1000)) (fun _ => True) := by
  refine ⟨Tryz.call201, fun t _ => ?_⟩
  obtain ⟨o, bs⟩ := t
  refine scall_of (n := 12) (ks := [0, 1, 2]) Tryz.func201 rfl rfl (Nat.le_of_ble_eq_true rfl) ?_
  unfold encDa
  refine sq3 ?_
  apply bx; rfl; rfl; (exact zcT); rfl; refine freshT fun r1 h1 => ?_; repeat rcases h1 with ⟨_, h1⟩
  refine sq41 ?_
  refine puA Tryz.call199 (wasm_off o) rfl pargsT nofT ?_
  refine sq50 ?_
  refine z124 ?_
  refine z131 ?_
  refine sq31 ?_
  apply aend; exact resT
  · exact ⟨by dsimp only; rw [show decide (bs.length ≤ 1000) = decide ((bs.length : Int) ≤ 1000) from decide_eq_decide.2 (by omega)]; cases h : offN o <;> simp [resAV], rfl⟩
  · exact stleT
theorem tl_ins : TellsA Tryz.prog 104 [] [] (fun x => .agg (iv .any x)) mayN (fun _ => True) := ⟨Tryz.call104, fun x _ => instr_may .any x⟩
theorem tl_co : TellsA Tryz.prog 100 [] [] (fun x => .agg (encCo x)) codN (fun x => x.bd.length ≤ 100000) := by
  refine ⟨Tryz.call100, fun t hb => ?_⟩
  obtain ⟨ls, bd⟩ := t
  dsimp only at hb
  refine scall_of (n := 22) (ks := [0, 1, 2, 4]) Tryz.func100 rfl rfl (Nat.le_of_ble_eq_true rfl) ?_
  unfold encCo
  refine sq3 ?_
  apply bx; rfl; rfl; (exact zcT); rfl; refine freshT fun r1 h1 => ?_; repeat rcases h1 with ⟨_, h1⟩
  refine sq41 ?_
  refine clA Tryz.call36 (code_match bd hb) rfl bargsT noT ?_
  rintro _ σ' ⟨q4, rfl, rfl⟩ h8
  replace h8 := lnewT h8; repeat rcases h8 with ⟨_, h8⟩
  apply rs_sto; exact nflT
  refine sq36 ?_
  refine sq12 ?_
  refine sq5 ?_
  refine z114 ?_
  refine z115 ?_
  refine pugA rfl rfl Tryz.call101 (fun _ => (all_int tl_kind ls (fun _ _ => True.intro) 32)) rfl pargsT nofT ?_
  refine z68 ?_
  refine sq50 ?_
  refine pugA rfl rfl Tryz.call103 (fun _ => (all_ins tl_ins bd (fun _ _ => True.intro) 300)) rfl pargsT nofT ?_
  refine sq31 ?_
  apply aend; exact resT
  · exact ⟨by unfold codN; dsimp only; cases okN (opsOf bd) <;> cases allN ls 32 kdN <;> rfl, rfl⟩
  · exact stleT
theorem wasm_lists (m : Md) (hw : m.W) : SCall Tryz.prog 105 [.agg (encMd m)] [] (fun r σ' => r = .bool (listsN m) ∧ σ' = []) := by
  obtain ⟨h1, h2, h3, h4, hd5⟩ := hw
  obtain ⟨ty, im, fn, tb, me, gl, ex, el, co, da⟩ := m
  dsimp only at h1 h2 h3 h4
  have hE : ∀ (a b c d e f g : Bool), (if (if (if (if (if (if a = true then b else false) = true then c else false) = true then d else false) = true then e else false) = true then f else false) = true then g else false) = (a && b && c && d && e && f && g) := by
    intro a b c d e f g; cases a <;> cases b <;> cases c <;> cases d <;> cases e <;> cases f <;> rfl
  refine scall_of (n := 54) (ks := [0, 1, 2, 3, 4, 5, 6, 7, 8, 9]) Tryz.func105 rfl rfl (Nat.le_of_ble_eq_true rfl) ?_
  unfold encMd
  refine sq3 ?_
  apply bx; rfl; rfl; (exact zcT); rfl; refine freshT fun r1 h1 => ?_; repeat rcases h1 with ⟨_, h1⟩
  refine sq41 ?_
  refine puA Tryz.call186 (all_ft tl_ft ty (fun _ _ => True.intro) 16) rfl pargsT nofT ?_
  refine sq41 ?_
  refine puA Tryz.call188 (all_im tl_im im h1 16) rfl pargsT nofT ?_
  refine sq41 ?_
  refine sq11 ?_
  refine z14 ?_
  refine z19 ?_
  refine puA Tryz.call101 (all_int tl_small fn (fun _ _ => True.intro) _) rfl pargsT nofT ?_
  refine sq41 ?_
  refine puA Tryz.call192 (all_gl tl_gl gl (fun _ _ => True.intro) 16) rfl pargsT nofT ?_
  refine sq41 ?_
  refine puA Tryz.call195 (all_ex tl_ex ex h2 16) rfl pargsT nofT ?_
  refine sq41 ?_
  refine puA Tryz.call197 (all_el tl_el el (fun _ _ => True.intro) 16) rfl pargsT nofT ?_
  refine sq41 ?_
  refine puA Tryz.call200 (all_da tl_da da (fun _ _ => True.intro) 16) rfl pargsT nofT ?_
  refine sq64 ?_
  refine z109 ?_
  refine z68 ?_
  refine sq10 ?_
  refine z68 ?_
  refine sq10 ?_
  refine z68 ?_
  refine sq10 ?_
  refine z68 ?_
  refine sq10 ?_
  refine z68 ?_
  refine sq10 ?_
  refine sq31 ?_
  apply aend; exact resT
  · exact ⟨by simp only [resAV]; rw [hE]; rfl, rfl⟩
  · exact stleT
/-- what of a module the writer leans on -/
structure Md.WO (m : Md) : Prop where
  w : m.W
  ok : m.Ok
theorem wasm_may (m : Md) (h : m.WO) : SCall Tryz.prog 74 [.agg (encMd m)] [] (fun r σ' => r = .bool (mayM m) ∧ σ' = []) := by
  have hM := mayM_eq m
  have hA : mayA m = ((if ((m.co.length : Int) == (m.fn.length : Int)) = true then allN m.co 16 codN else false) && listsN m && limN m.tb 16 1000 && limN m.me 16 65536) := by
    unfold mayA
    rw [ite_and, show ((m.co.length : Int) == (m.fn.length : Int)) = (m.co.length == m.fn.length) by rw [Bool.eq_iff_iff]; simp only [beq_iff_eq]; omega]
  have hL : decide ((writB m).length ≤ 8000) = decide (((writB m).length : Int) ≤ 8000) := decide_eq_decide.2 (by omega)
  rw [hL] at hM
  refine scall_of (n := 37) (ks := [0, 1, 2, 3]) Tryz.func74 rfl rfl (Nat.le_of_ble_eq_true rfl) ?_
  refine sq3 ?_
  apply bx; rfl; rfl; (exact zcT); rfl; refine freshT fun r1 h1 => ?_; repeat rcases h1 with ⟨_, h1⟩
  refine sq2 ?_
  have hwr := fun h' => wasm_written m h' h.ok
  obtain ⟨⟨h1, h2, h3, h4, hd5⟩, h5⟩ := h
  obtain ⟨ty, im, fn, tb, me, gl, ex, el, co, da⟩ := m
  have hli := wasm_lists ⟨ty, im, fn, tb, me, gl, ex, el, co, da⟩ ⟨h1, h2, h3, h4, hd5⟩
  dsimp only at h1 h2 h3 h4 hA hM
  refine rgT ?_
  refine sq11 ?_
  refine z14 ?_
  refine sq11 ?_
  refine z14 ?_
  refine sq101 ?_
  refine pugA rfl rfl Tryz.call99 (fun _ => (all_co tl_co co h3 16)) rfl pargsT nofT ?_
  refine sq31 ?_
  by_cases hc : mayA ⟨ty, im, fn, tb, me, gl, ex, el, co, da⟩ = true
  · have hc2 := hc
    rw [hA] at hc2
    simp only [Bool.and_eq_true] at hc2
    obtain ⟨⟨⟨e1, e2⟩, e3⟩, e4⟩ := hc2
    rw [e2] at hli
    have hl1 := wasm_limits tb 16 1000
    have hl2 := wasm_limits me 16 65536
    rw [e3] at hl1
    rw [e4] at hl2
    have hE : mayM ⟨ty, im, fn, tb, me, gl, ex, el, co, da⟩ = decide (((writB ⟨ty, im, fn, tb, me, gl, ex, el, co, da⟩).length : Int) ≤ 8000) := by rw [hM, hc]; rfl
    rw [e1]
    refine sq5 ?_
    refine z139 ?_
    refine gy rfl rfl ?_
    refine puA Tryz.call105 hli rfl pargsT nofT ?_
    refine z68 ?_
    refine sq21 ?_
    refine z140 ?_
    refine gy rfl rfl ?_
    refine puA Tryz.call106 hl1 rfl pargsT nofT ?_
    refine z68 ?_
    refine sq21 ?_
    refine z140 ?_
    refine gy rfl rfl ?_
    refine puA Tryz.call106 hl2 rfl pargsT nofT ?_
    refine z68 ?_
    refine sq69 ?_
    refine gy rfl rfl ?_
    refine clA Tryz.call92 (hwr hc) rfl bargsT noT ?_
    rintro _ σ' ⟨q33, rfl, rfl⟩ h33
    replace h33 := lnewT h33; repeat rcases h33 with ⟨_, h33⟩
    apply rs_sto; exact nflT
    refine z124 ?_
    refine z131 ?_
    refine sq31 ?_
    apply aend; exact resT
    · exact ⟨by rw [hE]; rfl, rfl⟩
    · exact stleT
  · rw [Bool.not_eq_true] at hc
    have hE : mayM ⟨ty, im, fn, tb, me, gl, ex, el, co, da⟩ = false := by rw [hM, hc]; rfl
    rw [hc] at hA
    simp only [← ite_and] at hA
    refine sq5 ?_
    refine z139 ?_
    refine pugA rfl rfl Tryz.call105 (fun _ => hli) rfl pargsT nofT ?_
    refine z68 ?_
    refine sq21 ?_
    refine z140 ?_
    refine pugA rfl rfl Tryz.call106 (fun _ => (wasm_limits tb 16 1000)) rfl pargsT nofT ?_
    refine z68 ?_
    refine sq21 ?_
    refine z140 ?_
    refine pugA rfl rfl Tryz.call106 (fun _ => (wasm_limits me 16 65536)) rfl pargsT nofT ?_
    refine z68 ?_
    rw [← hA]
    refine sq69 ?_
    refine ln rfl rfl rfl rfl ?_
    refine z124 ?_
    refine z131 ?_
    refine sq31 ?_
    apply aend; exact resT
    · exact ⟨by rw [hE]; rfl, rfl⟩
    · exact stleT
/-
  A module as bytes.
-/
def encB (m : Md) : List Nat := if mayM m = true then writB m else []
theorem may_a {m : Md} (h : mayM m = true) : mayA m = true ∧ (writB m).length ≤ 8000 := by
  rw [mayM_eq] at h
  simpa using h
theorem wasm_encode (m : Md) (h : m.WO) : SCall Tryz.prog 72 [.agg (encMd m)] [] (fun y σ => ∃ r, y = .own r 0 (encB m).length ∧ σ = [(r, .arr 5 1 ((encB m).map encU))]) := by
  have hm := wasm_may m h
  have hw := fun h' => wasm_written m h' h.ok
  refine scall_of (n := 8) (ks := [0, 1, 2, 5]) Tryz.func72 rfl rfl (Nat.le_of_ble_eq_true rfl) ?_
  refine sq3 ?_
  apply bx; rfl; rfl; (exact zcT); rfl; refine freshT fun r1 h1 => ?_; repeat rcases h1 with ⟨_, h1⟩
  refine sq2 ?_
  obtain ⟨ty, im, fn, tb, me, gl, ex, el, co, da⟩ := m
  refine rgT ?_
  refine z99 ?_
  refine puA Tryz.call74 hm rfl pargsT nofT ?_
  refine sq48 ?_
  refine sw_cond rfl (fun g1 => ?_) (fun g1 => ?_)
  · refine sq3 ?_
    refine sq0 ?_
    refine an ?_
    have hE : encB ⟨ty, im, fn, tb, me, gl, ex, el, co, da⟩ = [] := by unfold encB; rw [if_neg]; intro e; rw [e] at g1; cases g1
    refine sw_virt 2 5 1 (by decide) rfl (by decide) (freshT fun q2 hq2 => ?_); repeat rcases hq2 with ⟨_, hq2⟩
    refine ctlT ?_
    apply aend; exact resT
    · exact ⟨q2, by rw [hE]; rfl, by rw [hE]⟩
    · exact stleT
  have hy : mayM ⟨ty, im, fn, tb, me, gl, ex, el, co, da⟩ = true := by simpa using g1
  have hE : encB ⟨ty, im, fn, tb, me, gl, ex, el, co, da⟩ = writB ⟨ty, im, fn, tb, me, gl, ex, el, co, da⟩ := by unfold encB; rw [if_pos hy]
  refine sq3 ?_
  refine z99 ?_
  refine clA Tryz.call92 (hw (may_a hy).1) rfl bargsT noT ?_
  rintro _ σ' ⟨r7, rfl, rfl⟩ h7
  replace h7 := lnewT h7; repeat rcases h7 with ⟨_, h7⟩
  apply rs_sto; exact nflT
  refine sq2 ?_
  apply aend; exact resT
  · exact ⟨r7, by rw [hE]; rfl, by rw [hE]⟩
  · exact stleT
/-
  What the library's functions do that this seat reaches, each walked once.
-/
theorem lo32 (n : Nat) (hn : n < 4294967296) : IntKind.u64.wrap ↑(BitVec.ofInt IntKind.u64.bits (n : Int) &&& BitVec.ofInt IntKind.u64.bits 4294967295).toNat = n := by
  have h1 : (BitVec.ofInt IntKind.u64.bits (n : Int)).toNat = n := by
    rw [BitVec.toNat_ofInt]
    simp [IntKind.bits]
    omega
  have h2 : (BitVec.ofInt IntKind.u64.bits 4294967295).toNat = 2 ^ 32 - 1 := by decide
  rw [BitVec.toNat_and, h1, h2, Nat.and_two_pow_sub_one_eq_mod, Nat.mod_eq_of_lt (by omega), IntKind.wrap_u64]
  omega
theorem hi32 (n : Nat) (hn : n < 4294967296) : ((n : Int)).fdiv (2 ^ min (Int.toNat 32) IntKind.u64.bits) = 0 := by
  have : (2 : Int) ^ min (Int.toNat 32) IntKind.u64.bits = 4294967296 := by decide
  rw [this, Int.fdiv_eq_ediv_of_nonneg _ (by omega)]
  omega
theorem u64_natL (n : Nat) (hn : n < 18446744073709551616) : IntKind.u64.wrap (n : Int) = n := by rw [IntKind.wrap_u64]; omega


theorem lib_mul64 (n : Nat) (hn : n < 4294967296) : SCall Tryz.prog 264 [.int .u64 1, .int .u64 n] [] (fun x σ => x = .tup [.int .u64 0, .int .u64 n] ∧ σ = []) := by
  refine scall_of (n := 51) (ks := [0, 1, 4, 5, 6, 7, 8, 9, 10, 11, 12, 13]) Tryz.func264 rfl rfl (Nat.le_of_ble_eq_true rfl) ?_
  refine sq3 ?_
  refine sq82 ?_
  refine lo (lop_and (E rfl) (E rfl)) rfl ?_
  refine sq37 ?_
  refine z2 ?_
  refine sq37 ?_
  refine lo (lop_and (E rfl) (E rfl)) rfl ?_
  refine sq37 ?_
  refine z2 ?_
  refine sq64 ?_
  refine lo (lop_mul (E rfl) (E rfl)) rfl ?_
  refine sq64 ?_
  refine lo (lop_mul (E rfl) (E rfl)) rfl ?_
  refine lo (lop_move (E rfl)) rfl ?_
  refine z2 ?_
  refine lo (lop_add (E rfl) (E rfl)) rfl ?_
  refine sq37 ?_
  refine lo (lop_and (E rfl) (E rfl)) rfl ?_
  refine sq37 ?_
  refine z2 ?_
  refine sq64 ?_
  refine lo (lop_move (E rfl)) rfl ?_
  refine lo (lop_mul (E rfl) (E rfl)) rfl ?_
  refine lo (lop_add (E rfl) (E rfl)) rfl ?_
  refine sq64 ?_
  refine lo (lop_mul (E rfl) (E rfl)) rfl ?_
  refine lo (lop_move (E rfl)) rfl ?_
  refine lo (lop_add (E rfl) (E rfl)) rfl ?_
  refine lo (lop_move (E rfl)) rfl ?_
  refine z2 ?_
  refine lo (lop_add (E rfl) (E rfl)) rfl ?_
  refine sq64 ?_
  refine lo (lop_mul (E rfl) (E rfl)) rfl ?_
  refine sq2 ?_
  have e0 := lo32 n hn
  have e1 : IntKind.u64.wrap ↑(BitVec.ofInt IntKind.u64.bits 1 &&& BitVec.ofInt IntKind.u64.bits 4294967295).toNat = 1 := lo32 1 (by decide)
  have e2 := hi32 n hn
  have e3 : Int.fdiv 1 (2 ^ min (Int.toNat 32) IntKind.u64.bits) = 0 := hi32 1 (by decide)
  have e4 := u64_natL n (by omega)
  have e5 : IntKind.u64.wrap 0 = 0 := by decide
  have e6 : Int.fdiv 0 (2 ^ min (Int.toNat 32) IntKind.u64.bits) = 0 := by decide
  have e7 : IntKind.u64.wrap ↑(BitVec.ofInt IntKind.u64.bits 0 &&& BitVec.ofInt IntKind.u64.bits 4294967295).toNat = 0 := lo32 0 (by decide)
  apply aend; exact resT
  refine ⟨?_, rfl⟩
  simp only [resAV, e0, e1, e2, e3, e4, e5, e6, e7, Int.zero_mul, Int.mul_zero, Int.one_mul, Int.add_zero, Int.zero_add]
  exact stleT


theorem lib_mul (n : Nat) (hn : n < 4294967296) : SCall Tryz.prog 259 [.int .u64 1, .int .u64 n] [] (fun x σ => x = .tup [.int .u64 0, .int .u64 n] ∧ σ = []) := by
  refine scall_of (n := 30) (ks := [0, 1, 4, 5, 6, 7, 8, 9]) Tryz.func259 rfl rfl (Nat.le_of_ble_eq_true rfl) ?_
  refine sq3 ?_
  refine sq12 ?_
  refine sq5 ?_
  (first | refine pu [] Tryz.call264 (lib_mul64 n hn) rfl argsT nofT ?_ | refine pug [] rfl rfl Tryz.call264 (fun _ => (lib_mul64 n hn)) rfl argsT nofT ?_)
  refine sq36 ?_
  refine sq12 ?_
  refine sq5 ?_
  refine sq12 ?_
  apply aend; exact resT
  exact ⟨rfl, rfl⟩
  exact stleT
theorem rep_step {α : Type} (a z : α) (n k : Nat) (hk : k ≤ n) : List.replicate (k + min k (n - k)) a ++ List.replicate (n - (k + min k (n - k))) z =
    List.take (0 + k) (List.replicate k a ++ List.replicate (n - k) z) ++ List.take (min k (n - k)) (List.take (k - 0) (List.drop (0 + 0) (List.replicate k a ++ List.replicate (n - k) z))) ++ List.drop (0 + k + min k (n - k)) (List.replicate k a ++ List.replicate (n - k) z) := by
  generalize hm : min k (n - k) = m
  have h1 : m ≤ k := by omega
  have h2 : k + m ≤ n := by omega
  have t1 : List.take k (List.replicate k a ++ List.replicate (n - k) z) = List.replicate k a := by rw [List.take_append_of_le_length (by simp)]; simp
  have t2 : List.drop (k + m) (List.replicate k a ++ List.replicate (n - k) z) = List.replicate (n - (k + m)) z := by
    rw [List.drop_append, List.drop_of_length_le (by simp), List.nil_append, List.length_replicate, List.drop_replicate]
    congr 1
    omega
  rw [Nat.zero_add, Nat.sub_zero, Nat.add_zero, List.drop_zero, t1, t2, List.take_replicate, Nat.min_eq_left h1, List.replicate_append_replicate]
/-
  Reading a module's parts: numbers, bytes, rows, kinds.
-/
theorem lib_repeat_int {v : AV} (hv : v.cell = true) (n : Nat) (hn : n ≤ 100000) : SCall Tryz.prog 245 [.ro 1 [[v]] .any, .int .i64 n] [] (fun x σ => ∃ r, x = .own r 0 n ∧ σ = [(r, .arr 3 1 (List.replicate n [v]))]) := by
  refine scall_of (n := 48) (ks := [0, 1, 4, 5, 6, 7, 8, 10, 26, 37]) Tryz.func245 rfl rfl (Nat.le_of_ble_eq_true rfl) ?_
  refine sq62 ?_
  refine sq13 ?_
  refine sq26 ?_
  refine z24 ?_
  refine lo (lop_move (E rfl)) rfl ?_
  refine z24 ?_
  (first | refine pu [] Tryz.call259 (lib_mul n (by omega)) rfl argsT nofT ?_ | refine pug [] rfl rfl Tryz.call259 (fun _ => (lib_mul n (by omega))) rfl argsT nofT ?_)
  refine sq36 ?_
  refine sq82 ?_
  refine lo (lop_gtr (E rfl) (E rfl)) rfl ?_
  refine sq67 ?_
  refine z18 ?_
  refine z13 ?_
  refine sq4 ?_
  refine sw_cond rfl (fun h => ?_) (fun _ => ?_)
  · simp at h; omega
  refine sq7 ?_
  refine z44 ?_
  apply mk; rfl; rfl; rfl; rfl; omega; (simp [maxLen]; omega); (exact zcT); rfl; refine freshT fun r30 h30 => ?_; repeat rcases h30 with ⟨_, h30⟩
  refine sq64 ?_
  apply cp (m := min 1 n) (es' := List.replicate (min 1 n) [v] ++ List.replicate (n - min 1 n) [.int .i64 0]); rfl; (exact ssetT); simp; exact .inl ⟨_, rfl⟩; rfl
  · rcases n with _ | n <;> simp [List.replicate_succ]
  · rfl
  refine sq2 ?_
  refine lp (β := Nat × Nat) (fun b => ⟨[(7, .own b.1 0 n), (8, .int .i64 b.2)], [(b.1, .arr 3 1 (List.replicate b.2 [v] ++ List.replicate (n - b.2) [.int .i64 0]))]⟩) (fun b => b.2 ≤ n ∧ (0 < n → 0 < b.2)) (fun b => n - b.2) (r30, min 1 n) ?_ ⟨by show min 1 n ≤ n; omega, fun h => by show 0 < min 1 n; omega⟩ ?_
  · exact sgoT
  rintro ⟨r, k⟩ ⟨hk, hk0⟩
  simp only at hk hk0 ⊢
  refine sq18 ?_
  refine z14 ?_
  refine sq13 ?_
  refine sw_cond rfl (fun h1 => ?_) (fun h1 => ?_)
  · simp at h1
    refine ctlT ?_
    refine rgD [(0, true), (1, true), (2, true), (3, true), (4, true), (5, true), (6, true), (7, false), (8, true), (9, true)] ?_
    refine sq17 ?_
    refine dlo rfl (lop_move (E rfl)) rfl ?_
    refine z84 ?_
    refine sq17 ?_
    refine z25 ?_
    apply dcp (m := min k (n - k)) (es' := List.replicate (k + min k (n - k)) [v] ++ List.replicate (n - (k + min k (n - k))) [.int .i64 0]); rfl; infer_instance; infer_instance; rfl; (exact ssetT)
    · first | (simp; done) | (simp; omega)
    · exact .inr (.inr ⟨_, _, _, _, _, rfl, sgT, by simp, rfl⟩)
    · first | (simp; done) | (simp; omega)
    · exact rep_step _ _ _ _ hk
    · rfl
    · exact hbtT
    refine z144 ?_
    refine sq70 ?_
    refine ⟨(r, k + min k (n - k)), ⟨by show k + min k (n - k) ≤ n; omega, fun h => by show 0 < k + min k (n - k); omega⟩, by show n - (k + min k (n - k)) < n - k; omega, ?_⟩
    exact sgoT
  · obtain rfl : k = n := by simp at h1; omega
    refine sq29 ?_
    apply aend; exact resT
    · exact ⟨r, rfl, rfl⟩
    · exact stleT

theorem lib_clone_byte {es : List (List AV)} (hn : es.length ≤ 1000000) : SCall Tryz.prog 225 [.ro 1 es .any] [] (fun x σ => ∃ r, x = .own r 0 es.length ∧ σ = [(r, .arr 5 1 es)]) := by
  refine scall_of (n := 8) (ks := [0, 2, 4]) Tryz.func225 rfl rfl (Nat.le_of_ble_eq_true rfl) ?_
  refine sq62 ?_
  refine ne rfl rfl rfl fun b hb _ => ?_
  refine leT ?_
  cases b
  · refine sq3 ?_
    refine z1 ?_; refine freshT fun r5 h5 => ?_; repeat rcases h5 with ⟨_, h5⟩
    refine lo (lop_move (E rfl)) rfl ?_
    apply ap; rfl; rfl; (exact sgT); rfl; exact .inl ⟨_, rfl⟩; exact List.nil_append _; exact (Nat.zero_add _).symm; (simp [maxLen]; omega); omega; rfl; refine apnT fun r7 h7 => ?_; repeat rcases h7 with ⟨_, h7⟩
    refine sq2 ?_
    apply aend; exact resT
    · exact ⟨_, rfl, rfl⟩
    · exact stleT
  · obtain rfl := hb rfl
    refine sq3 ?_
    refine sq0 ?_
    refine an ?_
    refine sw_virt (ks := [0, 2, 4]) 2 5 1 (by decide) rfl (by decide) fun r hr => ?_
    refine ctlT ?_
    apply aend; exact resT
    · exact ⟨_, rfl, rfl⟩
    · exact stleT
/-! ### plain -/
def SOk (s : St) : Prop := s.1.length ≤ 100000 ∧ ∀ x ∈ s.1, x < 256
theorem SOk.drop {s : St} (h : SOk s) (n : Nat) (b : Bool) : SOk (s.1.drop n, b) := ⟨by simp; have := h.1; omega, fun x hx => h.2 x (List.mem_of_mem_drop hx)⟩
theorem SOk.bad {s : St} (h : SOk s) (b : Bool) : SOk (s.1, b) := h
def Kp {α : Type} (get : St → α × St) : Prop := ∀ s, SOk s → SOk (get s).2
theorem sk_ok {s : St} (h : SOk s) (n : Int) (ok : Bool) : SOk (skN s n ok) := by
  unfold skN
  dsimp only
  split
  · exact h.bad _
  · exact h.drop _ _
theorem nu_ok : Kp nuN := fun s h => sk_ok h _ _
theorem by_ok : Kp byN := fun s h => by
  unfold byN
  split
  · exact h.bad _
  · exact h.drop _ _
theorem ro_ok : Kp roN := fun s h => sk_ok (nu_ok s h) _ _
theorem ls_ok {α : Type} {get : St → α × St} (hg : Kp get) : ∀ n s, SOk s → SOk (lsN get n s).2
  | 0, s, h => h
  | n + 1, s, h => by
    rw [lsN]
    split
    · exact h
    · exact ls_ok hg n _ (hg s h)
theorem li_ok {α : Type} {get : St → α × St} (hg : Kp get) : Kp (liN get) := fun s h => ls_ok hg _ _ (nu_ok s h)
theorem ki_ok : Kp kiN := fun s h => by
  have := by_ok s h
  unfold kiN
  dsimp only
  split
  · exact this
  · split
    · exact this
    · exact this.bad _
theorem co_ok : Kp coN := fun s h => by unfold coN; exact by_ok _ (sk_ok h _ _)
theorem pl_ok : Kp plN := fun s h => by unfold plN; exact co_ok _ (by_ok s h)
theorem lm_ok : Kp lmN := fun s h => by
  have h1 := nu_ok _ (by_ok s h)
  unfold lmN
  dsimp only
  split
  · exact nu_ok _ h1
  · exact h1
theorem lo_ok : ∀ n s l, SOk s → SOk (loN n s l).2
  | 0, s, l, h => h
  | n + 1, s, l, h => by
    rw [loN]
    split
    · exact h
    · dsimp only
      split
      · exact (ki_ok _ (nu_ok s h)).bad _
      · exact lo_ok n _ _ (ki_ok _ (nu_ok s h))
theorem ru_ok : Kp ruN := fun s h => lo_ok _ _ _ (nu_ok s h)
theorem cd_ok : Kp cdN := fun s h => by
  have h1 := ru_ok _ (nu_ok s h)
  unfold cdN
  dsimp only
  split
  · exact h1
  · exact sk_ok h1 _ _
theorem ty_ok : Kp tyN := fun s h => li_ok ki_ok _ (li_ok ki_ok _ (by_ok s h))
theorem in_ok : Kp inN := fun s h => nu_ok s h
theorem im_ok : Kp imN := fun s h => nu_ok _ (by_ok _ (ro_ok _ (ro_ok s h)))
theorem gl_ok : Kp glN := fun s h => co_ok _ (by_ok _ (ki_ok s h))
theorem ex_ok : Kp exN := fun s h => nu_ok _ (by_ok _ (ro_ok s h))
theorem tb_ok (b : Bool) : Kp (tbN b) := fun s h => by
  unfold tbN
  cases b
  · exact lm_ok _ h
  · exact lm_ok _ (by_ok s h)
theorem lt_ok (b : Bool) : Kp (ltN b) := fun s h => li_ok (tb_ok b) s h
theorem ee_ok : Kp eeN := fun s h => li_ok in_ok _ (pl_ok s h)
theorem dd_ok : Kp ddN := fun s h => ro_ok _ (pl_ok s h)
/-! ### walks -/
def rdr (s : St) : List AV := [.ro 1 (s.1.map encU) .any, .bool s.2]
theorem wr_skip (r : Nat) (s : St) (hs : SOk s) (n : Nat) (ok : Bool) : SCall Tryz.prog 94 [.ptr r 0, .int .i64 n, .bool ok] [(r, .box 149 (rdr s))]
    (fun x σ => x = .tup [] ∧ σ = [(r, .box 149 (rdr (skN s n ok)))]) := by
  obtain ⟨l, bad⟩ := s
  obtain ⟨hl, hlt⟩ := hs
  dsimp only at hl hlt
  have hB : (if (if bad = true then true else !ok) = true then true else decide ((l.length : Int) < n)) = (bad || !ok || decide ((l.length : Int) < n)) := by cases bad <;> cases ok <;> rfl
  refine scall_of (n := 40) (ks := [0, 1, 2, 30]) Tryz.func94 rfl rfl (Nat.le_of_ble_eq_true rfl) ?_
  unfold rdr
  dsimp only
  refine sq18 ?_
  refine sq38 ?_
  refine sq10 ?_
  refine z130 ?_
  refine z113 ?_
  refine sq10 ?_
  refine z109 ?_
  refine sq89 ?_
  refine z124 ?_
  refine z143 ?_
  refine z113 ?_
  refine z76 ?_
  rw [hB]
  refine z59 ?_
  apply stp; rfl; rfl; rfl; rfl; (exact sputT)
  refine sq4 ?_
  generalize hb : (bad || !ok || decide ((l.length : Int) < n)) = B
  refine sq1 ?_
  refine sq38 ?_
  refine sq48 ?_
  refine sw_cond rfl (fun g1 => ?_) (fun g1 => ?_)
  · obtain rfl : B = false := by simpa using g1
    have hn : n ≤ l.length := by simp at hb; omega
    have hE : skN (l, bad) n ok = (l.drop n, false) := by unfold skN; dsimp only; rw [hb]; rfl
    refine sq18 ?_
    refine sq38 ?_
    refine lo (lop_move (E rfl)) rfl ?_
    refine z127 ?_
    refine sq39 ?_
    rw [take_sub]
    apply stp; rfl; rfl; rfl; rfl; (exact sputT)
    refine sq4 ?_
    refine aend_n ?_
    apply aend; exact resT
    · exact ⟨rfl, by rw [hE]⟩
    · exact stleT
  obtain rfl : B = true := by simpa using g1
  have hE : skN (l, bad) n ok = (l, true) := by unfold skN; dsimp only; rw [hb]; rfl
  refine ctlT ?_
  refine aend_n ?_
  apply aend; exact resT
  · exact ⟨rfl, by rw [hE]⟩
  · exact stleT
theorem wr_num (r : Nat) (s : St) (hs : SOk s) : SCall Tryz.prog 96 [.ptr r 0] [(r, .box 149 (rdr s))]
    (fun x σ => x = .int .i64 ((nuN s).1 : Nat) ∧ σ = [(r, .box 149 (rdr (nuN s).2))]) := by
  have hgb := getU_bd s.1
  have hsk := fun n ok => wr_skip r s hs n ok
  obtain ⟨l, bad⟩ := s
  obtain ⟨hl, hlt⟩ := hs
  dsimp only at hl hlt hgb
  refine scall_of (n := 26) (ks := [0, 2, 3, 4, 5, 23]) Tryz.func96 rfl rfl (Nat.le_of_ble_eq_true rfl) ?_
  unfold rdr
  dsimp only
  refine sq62 ?_
  refine sq38 ?_
  refine puA Tryz.call157 (leb_U l (by omega) hlt) rfl pargsT nofT ?_
  refine sq74 ?_
  refine sq23 ?_
  refine sq5 ?_
  refine sq66 ?_
  refine cw [(r, .box 149 (rdr (l, bad)))] Tryz.call94 (hsk (getU l).2.1 ((getU l).2.2 == 0)) rfl argsleT stleT ?_
  rintro _ σ' ⟨rfl, rfl⟩ h19
  apply rs_sto; exact nflT
  refine sq4 ?_
  have hN : nuN (l, bad) = (if (skN (l, bad) (getU l).2.1 ((getU l).2.2 == 0)).2 then 0 else (getU l).1, skN (l, bad) (getU l).2.1 ((getU l).2.2 == 0)) := rfl
  generalize skN (l, bad) (getU l).2.1 ((getU l).2.2 == 0) = s2 at hN ⊢
  obtain ⟨l2, b2⟩ := s2
  unfold rdr
  dsimp only at hN ⊢
  refine sq1 ?_
  refine sq38 ?_
  refine sq4 ?_
  refine sw_cond rfl (fun g3 => ?_) (fun g3 => ?_)
  · have hE : nuN (l, bad) = (0, (l2, true)) := by rw [hN, g3]; rfl
    rw [g3]
    refine sq8 ?_
    apply aend; exact resT
    · exact ⟨by rw [hE]; rfl, by rw [hE]⟩
    · exact stleT
  have hE : nuN (l, bad) = ((getU l).1, (l2, false)) := by rw [hN, g3]; rfl
  rw [g3]
  refine sq7 ?_
  refine z44 ?_
  refine sq2 ?_
  apply aend; exact resT
  · exact ⟨by rw [hE]; rfl, by rw [hE]⟩
  · exact stleT
theorem wr_byte (r : Nat) (s : St) (hs : SOk s) : SCall Tryz.prog 95 [.ptr r 0] [(r, .box 149 (rdr s))]
    (fun x σ => x = .int .u8 ((byN s).1 : Nat) ∧ σ = [(r, .box 149 (rdr (byN s).2))]) := by
  obtain ⟨l, bad⟩ := s
  obtain ⟨hl, hlt⟩ := hs
  dsimp only at hl hlt
  refine scall_of (n := 34) (ks := [0, 2, 3, 15]) Tryz.func95 rfl rfl (Nat.le_of_ble_eq_true rfl) ?_
  unfold rdr
  dsimp only
  refine sq62 ?_
  refine sq38 ?_
  refine sq10 ?_
  refine sq89 ?_
  refine z124 ?_
  refine z112 ?_
  refine z113 ?_
  refine sq4 ?_
  refine sw_cond rfl (fun g1 => ?_) (fun g1 => ?_)
  · have hE : byN (l, bad) = (0, (l, true)) := by unfold byN; rw [if_pos]; cases bad; (cases l with | nil => rfl | cons x t => simp at g1; omega); rfl
    refine sq90 ?_
    apply stp; rfl; rfl; rfl; rfl; (exact sputT)
    refine sq79 ?_
    apply aend; exact resT
    · exact ⟨by rw [hE]; rfl, by rw [hE]⟩
    · exact stleT
  obtain ⟨c, t, rfl⟩ : ∃ c t, l = c :: t := by cases l with | nil => (cases bad <;> simp at g1) | cons c t => exact ⟨c, t, rfl⟩
  obtain rfl : bad = false := by cases bad with | false => rfl | true => simp at g1
  have hE : byN (c :: t, false) = (c, (t, false)) := rfl
  have hpos : 0 < (c :: t).length := Nat.succ_pos _
  have hx : (c :: t)[(0 : Int).toNat]? = some c := rfl
  refine sq7 ?_
  refine sq38 ?_
  refine sq76 ?_
  refine sq64 ?_
  refine sq38 ?_
  refine z127 ?_
  refine sq39 ?_
  rw [show List.take (((c :: t).map encU).length - 1) (List.drop 1 ((c :: t).map encU)) = t.map encU by rw [List.map_cons, List.drop_one, List.tail_cons]; exact List.take_of_length_le (by simp)]
  apply stp; rfl; rfl; rfl; rfl; (exact sputT)
  refine sq27 ?_
  refine sq2 ?_
  apply aend; exact resT
  · exact ⟨by rw [hE]; rfl, by rw [hE]⟩
  · exact stleT
theorem wr_row (r : Nat) (s : St) (hs : SOk s) : SCall Tryz.prog 175 [.ptr r 0] [(r, .box 149 (rdr s))]
    (fun x σ => ∃ q, Nq q r ∧ x = .own q 0 (roN s).1.length ∧ σ = [(q, .arr 5 1 ((roN s).1.map encU)), (r, .box 149 (rdr (roN s).2))]) := by
  have h1 := wr_num r s hs
  have k1 := nu_ok s hs
  have hR : roN s = (if (skN (nuN s).2 (nuN s).1 true).2 then [] else (nuN s).2.1.take (nuN s).1, skN (nuN s).2 (nuN s).1 true) := rfl
  generalize nuN s = p at h1 k1 hR
  obtain ⟨n, s1⟩ := p
  dsimp only at h1 k1 hR
  have h2 := wr_skip r s1 k1 n true
  have hk : (skN s1 n true).2 = false → n ≤ s1.1.length := fun h => by unfold skN at h; dsimp only at h; simp at h; omega
  generalize skN s1 n true = s2 at h2 hR hk
  obtain ⟨l1, b1⟩ := s1
  obtain ⟨l2, b2⟩ := s2
  have hl1 : l1.length ≤ 100000 := k1.1
  dsimp only at hR hk
  rw [hR]
  refine scall_of (n := 22) (ks := [0, 2, 3, 4, 17]) Tryz.func175 rfl rfl (Nat.le_of_ble_eq_true rfl) ?_
  refine sq62 ?_
  refine cw [(r, .box 149 (rdr s))] Tryz.call96 h1 rfl argsleT stleT ?_
  rintro _ σ' ⟨rfl, rfl⟩ h6
  apply rs_sto; exact nflT
  refine sq2 ?_
  unfold rdr
  dsimp only
  refine sq1 ?_
  refine sq38 ?_
  refine sq64 ?_
  refine cw [(r, .box 149 (rdr (l1, b1)))] Tryz.call94 h2 rfl argsleT stleT ?_
  rintro _ σ' ⟨rfl, rfl⟩ h13
  apply rs_sto; exact nflT
  refine sq4 ?_
  unfold rdr
  dsimp only
  refine sq1 ?_
  refine sq38 ?_
  refine sq4 ?_
  refine sw_cond rfl (fun g4 => ?_) (fun g4 => ?_)
  · have hE : (if b2 = true then [] else l1.take n) = [] := if_pos g4
    rw [hE, g4]
    refine sq3 ?_
    refine sq0 ?_
    refine an ?_
    refine sw_virt 2 5 1 (by decide) rfl (by decide) (freshT fun q hq => ?_); repeat rcases hq with ⟨_, hq⟩
    refine ctlT ?_
    apply aend; exact resT
    · exact ⟨q, by (exact nqT), rfl, rfl⟩
    · exact stleT
  have hE : (if b2 = true then [] else l1.take n) = l1.take n := if_neg (by rw [g4]; simp)
  have hn := hk g4
  rw [hE, g4]
  refine sq18 ?_
  refine z100 ?_
  rw [show List.take (n - 0) (List.drop 0 (l1.map encU)) = (l1.take n).map encU by rw [List.drop_zero, Nat.sub_zero, List.map_take]]
  refine clA Tryz.call225 (lib_clone_byte (es := (l1.take n).map encU) (by simp; omega)) rfl bargsT noT ?_
  rintro _ σ' ⟨q, rfl, rfl⟩ h21
  replace h21 := lnewT h21; repeat rcases h21 with ⟨_, h21⟩
  apply rs_sto; exact nflT
  refine sq2 ?_
  rw [List.length_map]
  apply aend; exact resT
  · exact ⟨q, by (exact nqT), rfl, rfl⟩
  · exact stleT
/-
  Reading a module's parts: lists, kinds, constants, limits.
-/
theorem nu_bd (s : St) : (nuN s).1 < 4294967296 := by
  have := (getU_bd s.1).1
  unfold nuN
  dsimp only
  split <;> omega
/-- a function value that reads an x -/
structure Gets (P : Program) (f : FuncId) (us vs : List AV) (σ : St → Sto) {α : Type} (ar : α → AV) (get : St → α × St) : Prop where
  call : ∀ args w, (callFunc f args).run P w = .ok (.enter f args) w
  st : Kp get
  run : ∀ s, SOk s → SCall P f (us ++ [] ++ vs) (σ s) (fun y σ' => y = ar (get s).1 ∧ σ' = σ (get s).2)
theorem list_int {f : FuncId} {us vs : List AV} {r : Nat}  {get : St → Int × St} (hg : Gets Tryz.prog f us vs (fun s => [(r, .box 149 (rdr s))]) (fun n => .int .i64 n) get) (s : St) (hs : SOk s) : SCall Tryz.prog 162 [.ptr r 0, .fn (.func f) us vs] [(r, .box 149 (rdr s))]
    (fun x σ => ∃ q, Fresh q [(r, .box 149 (rdr s))] ∧ x = .own q 0 (liN get s).1.length ∧ σ = [(q, .arr 3 1 ((liN get s).1.map encI)), (r, .box 149 (rdr (liN get s).2))]) := by
  have h1 := wr_num r s hs
  have k1 := nu_ok s hs
  have kb := nu_bd s
  have hR : liN get s = lsN get (nuN s).1 (nuN s).2 := rfl
  generalize nuN s = p at h1 k1 kb hR
  obtain ⟨n, s1⟩ := p
  dsimp only at h1 k1 kb hR
  refine scall_of (n := 26) (ks := [0, 1, 4, 5, 6, 17]) Tryz.func162 rfl rfl (Nat.le_of_ble_eq_true rfl) ?_
  refine sq65 ?_
  refine sq2 ?_
  refine sw_virt 5 3 1 (by decide) rfl (by decide) (freshT fun q0 hq0 => ?_); repeat rcases hq0 with ⟨_, hq0⟩
  refine sq1 ?_
  refine cw [(r, .box 149 (rdr s))] Tryz.call96 h1 rfl argsleT stleT ?_
  rintro _ σ' ⟨rfl, rfl⟩ h8
  apply rs_sto; exact nflT
  refine sq2 ?_
  refine lp (β := Nat × Nat × St × List Int) (fun b => ⟨[(0, .ptr r 0), (1, .fn (.func f) us vs), (5, .own b.1 0 b.2.2.2.length), (6, .int .i64 (b.2.1 : Nat))], [(b.1, .arr 3 1 (b.2.2.2.map encI)), (r, .box 149 (rdr b.2.2.1))]⟩) (fun b => Fresh b.1 [(r, .box 149 (rdr s))] ∧ SOk b.2.2.1 ∧ b.2.1 + b.2.2.2.length ≤ 4294967296 ∧ liN get s = (b.2.2.2 ++ (lsN get b.2.1 b.2.2.1).1, (lsN get b.2.1 b.2.2.1).2)) (fun b => b.2.1) (q0, n, s1, []) sgoT ⟨frsT, k1, by show n + 0 ≤ 4294967296; omega, by rw [hR]; rfl⟩ ?_
  rintro ⟨q1, m, ⟨l2, b2⟩, acc⟩ ⟨hq1, hs2, hmb, hL⟩
  dsimp only at hq1 hs2 hmb hL ⊢
  have hq2 := hq1; simp only [fresh_cons, fresh_nil, and_true] at hq2; repeat rcases hq2 with ⟨_, hq2⟩
  unfold rdr
  dsimp only
  refine sq7 ?_
  refine sq47 ?_
  refine sq89 ?_
  refine z130 ?_
  refine sq91 ?_
  refine sw_cond rfl (fun g3 => ?_) (fun g3 => ?_)
  · obtain rfl : b2 = false := by cases b2 with | false => rfl | true => simp at g3
    obtain ⟨m, rfl⟩ : ∃ k, m = k + 1 := ⟨m - 1, by simp at g3; omega⟩
    have hrun := hg.run (l2, false) hs2
    have hk := hg.st (l2, false) hs2
    have hl : lsN get (m + 1) (l2, false) = ((get (l2, false)).1 :: (lsN get m (get (l2, false)).2).1, (lsN get m (get (l2, false)).2).2) := rfl
    rw [hl] at hL
    generalize get (l2, false) = p at hrun hk hL
    obtain ⟨x, s3⟩ := p
    dsimp only at hrun hk hL
    refine sq18 ?_
    refine cf_ [(r, .box 149 (rdr (l2, false)))] rfl hg.call hrun rfl argsleT stleT ?_
    rintro _ σ' ⟨rfl, rfl⟩ h22
    apply rs_sto; exact nflT
    refine z1 ?_; refine freshT fun r23 h23 => ?_; repeat rcases h23 with ⟨_, h23⟩
    refine apA ((acc ++ [x]).map encI) (acc ++ [x]).length ?_
    refine apnT fun r24 h24 => ?_; repeat rcases h24 with ⟨_, h24⟩
    refine sq37 ?_
    refine z19 ?_
    rw [show ((m + 1 : Nat) : Int) - 1 = (m : Nat) by omega]
    refine sq2 ?_
    refine ⟨(r24, m, s3, acc ++ [x]), ⟨frsT, hk, by show m + (acc ++ [x]).length ≤ 4294967296; simp; omega, by rw [hL]; simp⟩, Nat.lt_succ_self _, ?_⟩
    dsimp only
    exact sgoT
  have hz : lsN get m (l2, b2) = ([], (l2, b2)) := by cases m with | zero => rfl | succ m => (cases b2 with | true => rfl | false => (simp at g3 <;> omega))
  have hE : liN get s = (acc, (l2, b2)) := by rw [hL, hz]; simp
  refine sq29 ?_
  apply aend; exact resT
  · exact ⟨q1, hq1, by rw [hE]; rfl, by rw [hE]⟩
  · exact stleT
theorem list_ft {f : FuncId} {us vs : List AV} {r : Nat}  {get : St → FT × St} (hg : Gets Tryz.prog f us vs (fun s => [(r, .box 149 (rdr s))]) (fun x => .agg (encFT x)) get) (s : St) (hs : SOk s) : SCall Tryz.prog 158 [.ptr r 0, .fn (.func f) us vs] [(r, .box 149 (rdr s))]
    (fun x σ => ∃ q, Fresh q [(r, .box 149 (rdr s))] ∧ x = .own q 0 (liN get s).1.length ∧ σ = [(q, .arr 57 2 ((liN get s).1.map encFT)), (r, .box 149 (rdr (liN get s).2))]) := by
  have h1 := wr_num r s hs
  have k1 := nu_ok s hs
  have kb := nu_bd s
  have hR : liN get s = lsN get (nuN s).1 (nuN s).2 := rfl
  generalize nuN s = p at h1 k1 kb hR
  obtain ⟨n, s1⟩ := p
  dsimp only at h1 k1 kb hR
  refine scall_of (n := 26) (ks := [0, 1, 4, 5, 6, 17]) Tryz.func158 rfl rfl (Nat.le_of_ble_eq_true rfl) ?_
  refine sq65 ?_
  refine sq2 ?_
  refine sw_virt 5 57 2 (by decide) rfl (by decide) (freshT fun q0 hq0 => ?_); repeat rcases hq0 with ⟨_, hq0⟩
  refine sq1 ?_
  refine cw [(r, .box 149 (rdr s))] Tryz.call96 h1 rfl argsleT stleT ?_
  rintro _ σ' ⟨rfl, rfl⟩ h8
  apply rs_sto; exact nflT
  refine sq2 ?_
  refine lp (β := Nat × Nat × St × List FT) (fun b => ⟨[(0, .ptr r 0), (1, .fn (.func f) us vs), (5, .own b.1 0 b.2.2.2.length), (6, .int .i64 (b.2.1 : Nat))], [(b.1, .arr 57 2 (b.2.2.2.map encFT)), (r, .box 149 (rdr b.2.2.1))]⟩) (fun b => Fresh b.1 [(r, .box 149 (rdr s))] ∧ SOk b.2.2.1 ∧ b.2.1 + b.2.2.2.length ≤ 4294967296 ∧ liN get s = (b.2.2.2 ++ (lsN get b.2.1 b.2.2.1).1, (lsN get b.2.1 b.2.2.1).2)) (fun b => b.2.1) (q0, n, s1, []) sgoT ⟨frsT, k1, by show n + 0 ≤ 4294967296; omega, by rw [hR]; rfl⟩ ?_
  rintro ⟨q1, m, ⟨l2, b2⟩, acc⟩ ⟨hq1, hs2, hmb, hL⟩
  dsimp only at hq1 hs2 hmb hL ⊢
  have hq2 := hq1; simp only [fresh_cons, fresh_nil, and_true] at hq2; repeat rcases hq2 with ⟨_, hq2⟩
  unfold rdr
  dsimp only
  refine sq7 ?_
  refine sq47 ?_
  refine sq89 ?_
  refine z130 ?_
  refine sq91 ?_
  refine sw_cond rfl (fun g3 => ?_) (fun g3 => ?_)
  · obtain rfl : b2 = false := by cases b2 with | false => rfl | true => simp at g3
    obtain ⟨m, rfl⟩ : ∃ k, m = k + 1 := ⟨m - 1, by simp at g3; omega⟩
    have hrun := hg.run (l2, false) hs2
    have hk := hg.st (l2, false) hs2
    have hl : lsN get (m + 1) (l2, false) = ((get (l2, false)).1 :: (lsN get m (get (l2, false)).2).1, (lsN get m (get (l2, false)).2).2) := rfl
    rw [hl] at hL
    generalize get (l2, false) = p at hrun hk hL
    obtain ⟨x, s3⟩ := p
    dsimp only at hrun hk hL
    refine sq18 ?_
    refine cf_ [(r, .box 149 (rdr (l2, false)))] rfl hg.call hrun rfl argsleT stleT ?_
    rintro _ σ' ⟨rfl, rfl⟩ h22
    apply rs_sto; exact nflT
    refine z1 ?_; refine freshT fun r23 h23 => ?_; repeat rcases h23 with ⟨_, h23⟩
    refine apA ((acc ++ [x]).map encFT) (acc ++ [x]).length ?_
    refine apnT fun r24 h24 => ?_; repeat rcases h24 with ⟨_, h24⟩
    refine sq37 ?_
    refine z19 ?_
    rw [show ((m + 1 : Nat) : Int) - 1 = (m : Nat) by omega]
    refine sq2 ?_
    refine ⟨(r24, m, s3, acc ++ [x]), ⟨frsT, hk, by show m + (acc ++ [x]).length ≤ 4294967296; simp; omega, by rw [hL]; simp⟩, Nat.lt_succ_self _, ?_⟩
    dsimp only
    exact sgoT
  have hz : lsN get m (l2, b2) = ([], (l2, b2)) := by cases m with | zero => rfl | succ m => (cases b2 with | true => rfl | false => (simp at g3 <;> omega))
  have hE : liN get s = (acc, (l2, b2)) := by rw [hL, hz]; simp
  refine sq29 ?_
  apply aend; exact resT
  · exact ⟨q1, hq1, by rw [hE]; rfl, by rw [hE]⟩
  · exact stleT
theorem list_im {f : FuncId} {us vs : List AV} {r : Nat}  {get : St → Im × St} (hg : Gets Tryz.prog f us vs (fun s => [(r, .box 149 (rdr s))]) (fun x => .agg (encIm x)) get) (s : St) (hs : SOk s) : SCall Tryz.prog 160 [.ptr r 0, .fn (.func f) us vs] [(r, .box 149 (rdr s))]
    (fun x σ => ∃ q, Fresh q [(r, .box 149 (rdr s))] ∧ x = .own q 0 (liN get s).1.length ∧ σ = [(q, .arr 60 3 ((liN get s).1.map encIm)), (r, .box 149 (rdr (liN get s).2))]) := by
  have h1 := wr_num r s hs
  have k1 := nu_ok s hs
  have kb := nu_bd s
  have hR : liN get s = lsN get (nuN s).1 (nuN s).2 := rfl
  generalize nuN s = p at h1 k1 kb hR
  obtain ⟨n, s1⟩ := p
  dsimp only at h1 k1 kb hR
  refine scall_of (n := 26) (ks := [0, 1, 4, 5, 6, 17]) Tryz.func160 rfl rfl (Nat.le_of_ble_eq_true rfl) ?_
  refine sq65 ?_
  refine sq2 ?_
  refine sw_virt 5 60 3 (by decide) rfl (by decide) (freshT fun q0 hq0 => ?_); repeat rcases hq0 with ⟨_, hq0⟩
  refine sq1 ?_
  refine cw [(r, .box 149 (rdr s))] Tryz.call96 h1 rfl argsleT stleT ?_
  rintro _ σ' ⟨rfl, rfl⟩ h8
  apply rs_sto; exact nflT
  refine sq2 ?_
  refine lp (β := Nat × Nat × St × List Im) (fun b => ⟨[(0, .ptr r 0), (1, .fn (.func f) us vs), (5, .own b.1 0 b.2.2.2.length), (6, .int .i64 (b.2.1 : Nat))], [(b.1, .arr 60 3 (b.2.2.2.map encIm)), (r, .box 149 (rdr b.2.2.1))]⟩) (fun b => Fresh b.1 [(r, .box 149 (rdr s))] ∧ SOk b.2.2.1 ∧ b.2.1 + b.2.2.2.length ≤ 4294967296 ∧ liN get s = (b.2.2.2 ++ (lsN get b.2.1 b.2.2.1).1, (lsN get b.2.1 b.2.2.1).2)) (fun b => b.2.1) (q0, n, s1, []) sgoT ⟨frsT, k1, by show n + 0 ≤ 4294967296; omega, by rw [hR]; rfl⟩ ?_
  rintro ⟨q1, m, ⟨l2, b2⟩, acc⟩ ⟨hq1, hs2, hmb, hL⟩
  dsimp only at hq1 hs2 hmb hL ⊢
  have hq2 := hq1; simp only [fresh_cons, fresh_nil, and_true] at hq2; repeat rcases hq2 with ⟨_, hq2⟩
  unfold rdr
  dsimp only
  refine sq7 ?_
  refine sq47 ?_
  refine sq89 ?_
  refine z130 ?_
  refine sq91 ?_
  refine sw_cond rfl (fun g3 => ?_) (fun g3 => ?_)
  · obtain rfl : b2 = false := by cases b2 with | false => rfl | true => simp at g3
    obtain ⟨m, rfl⟩ : ∃ k, m = k + 1 := ⟨m - 1, by simp at g3; omega⟩
    have hrun := hg.run (l2, false) hs2
    have hk := hg.st (l2, false) hs2
    have hl : lsN get (m + 1) (l2, false) = ((get (l2, false)).1 :: (lsN get m (get (l2, false)).2).1, (lsN get m (get (l2, false)).2).2) := rfl
    rw [hl] at hL
    generalize get (l2, false) = p at hrun hk hL
    obtain ⟨x, s3⟩ := p
    dsimp only at hrun hk hL
    refine sq18 ?_
    refine cf_ [(r, .box 149 (rdr (l2, false)))] rfl hg.call hrun rfl argsleT stleT ?_
    rintro _ σ' ⟨rfl, rfl⟩ h22
    apply rs_sto; exact nflT
    refine z1 ?_; refine freshT fun r23 h23 => ?_; repeat rcases h23 with ⟨_, h23⟩
    refine apA ((acc ++ [x]).map encIm) (acc ++ [x]).length ?_
    refine apnT fun r24 h24 => ?_; repeat rcases h24 with ⟨_, h24⟩
    refine sq37 ?_
    refine z19 ?_
    rw [show ((m + 1 : Nat) : Int) - 1 = (m : Nat) by omega]
    refine sq2 ?_
    refine ⟨(r24, m, s3, acc ++ [x]), ⟨frsT, hk, by show m + (acc ++ [x]).length ≤ 4294967296; simp; omega, by rw [hL]; simp⟩, Nat.lt_succ_self _, ?_⟩
    dsimp only
    exact sgoT
  have hz : lsN get m (l2, b2) = ([], (l2, b2)) := by cases m with | zero => rfl | succ m => (cases b2 with | true => rfl | false => (simp at g3 <;> omega))
  have hE : liN get s = (acc, (l2, b2)) := by rw [hL, hz]; simp
  refine sq29 ?_
  apply aend; exact resT
  · exact ⟨q1, hq1, by rw [hE]; rfl, by rw [hE]⟩
  · exact stleT
theorem list_gl {f : FuncId} {us vs : List AV} {r : Nat}  {get : St → Gl × St} (hg : Gets Tryz.prog f us vs (fun s => [(r, .box 149 (rdr s))]) (fun x => .agg (encGl x)) get) (s : St) (hs : SOk s) : SCall Tryz.prog 164 [.ptr r 0, .fn (.func f) us vs] [(r, .box 149 (rdr s))]
    (fun x σ => ∃ q, Fresh q [(r, .box 149 (rdr s))] ∧ x = .own q 0 (liN get s).1.length ∧ σ = [(q, .arr 64 3 ((liN get s).1.map encGl)), (r, .box 149 (rdr (liN get s).2))]) := by
  have h1 := wr_num r s hs
  have k1 := nu_ok s hs
  have kb := nu_bd s
  have hR : liN get s = lsN get (nuN s).1 (nuN s).2 := rfl
  generalize nuN s = p at h1 k1 kb hR
  obtain ⟨n, s1⟩ := p
  dsimp only at h1 k1 kb hR
  refine scall_of (n := 26) (ks := [0, 1, 4, 5, 6, 17]) Tryz.func164 rfl rfl (Nat.le_of_ble_eq_true rfl) ?_
  refine sq65 ?_
  refine sq2 ?_
  refine sw_virt 5 64 3 (by decide) rfl (by decide) (freshT fun q0 hq0 => ?_); repeat rcases hq0 with ⟨_, hq0⟩
  refine sq1 ?_
  refine cw [(r, .box 149 (rdr s))] Tryz.call96 h1 rfl argsleT stleT ?_
  rintro _ σ' ⟨rfl, rfl⟩ h8
  apply rs_sto; exact nflT
  refine sq2 ?_
  refine lp (β := Nat × Nat × St × List Gl) (fun b => ⟨[(0, .ptr r 0), (1, .fn (.func f) us vs), (5, .own b.1 0 b.2.2.2.length), (6, .int .i64 (b.2.1 : Nat))], [(b.1, .arr 64 3 (b.2.2.2.map encGl)), (r, .box 149 (rdr b.2.2.1))]⟩) (fun b => Fresh b.1 [(r, .box 149 (rdr s))] ∧ SOk b.2.2.1 ∧ b.2.1 + b.2.2.2.length ≤ 4294967296 ∧ liN get s = (b.2.2.2 ++ (lsN get b.2.1 b.2.2.1).1, (lsN get b.2.1 b.2.2.1).2)) (fun b => b.2.1) (q0, n, s1, []) sgoT ⟨frsT, k1, by show n + 0 ≤ 4294967296; omega, by rw [hR]; rfl⟩ ?_
  rintro ⟨q1, m, ⟨l2, b2⟩, acc⟩ ⟨hq1, hs2, hmb, hL⟩
  dsimp only at hq1 hs2 hmb hL ⊢
  have hq2 := hq1; simp only [fresh_cons, fresh_nil, and_true] at hq2; repeat rcases hq2 with ⟨_, hq2⟩
  unfold rdr
  dsimp only
  refine sq7 ?_
  refine sq47 ?_
  refine sq89 ?_
  refine z130 ?_
  refine sq91 ?_
  refine sw_cond rfl (fun g3 => ?_) (fun g3 => ?_)
  · obtain rfl : b2 = false := by cases b2 with | false => rfl | true => simp at g3
    obtain ⟨m, rfl⟩ : ∃ k, m = k + 1 := ⟨m - 1, by simp at g3; omega⟩
    have hrun := hg.run (l2, false) hs2
    have hk := hg.st (l2, false) hs2
    have hl : lsN get (m + 1) (l2, false) = ((get (l2, false)).1 :: (lsN get m (get (l2, false)).2).1, (lsN get m (get (l2, false)).2).2) := rfl
    rw [hl] at hL
    generalize get (l2, false) = p at hrun hk hL
    obtain ⟨x, s3⟩ := p
    dsimp only at hrun hk hL
    refine sq18 ?_
    refine cf_ [(r, .box 149 (rdr (l2, false)))] rfl hg.call hrun rfl argsleT stleT ?_
    rintro _ σ' ⟨rfl, rfl⟩ h22
    apply rs_sto; exact nflT
    refine z1 ?_; refine freshT fun r23 h23 => ?_; repeat rcases h23 with ⟨_, h23⟩
    refine apA ((acc ++ [x]).map encGl) (acc ++ [x]).length ?_
    refine apnT fun r24 h24 => ?_; repeat rcases h24 with ⟨_, h24⟩
    refine sq37 ?_
    refine z19 ?_
    rw [show ((m + 1 : Nat) : Int) - 1 = (m : Nat) by omega]
    refine sq2 ?_
    refine ⟨(r24, m, s3, acc ++ [x]), ⟨frsT, hk, by show m + (acc ++ [x]).length ≤ 4294967296; simp; omega, by rw [hL]; simp⟩, Nat.lt_succ_self _, ?_⟩
    dsimp only
    exact sgoT
  have hz : lsN get m (l2, b2) = ([], (l2, b2)) := by cases m with | zero => rfl | succ m => (cases b2 with | true => rfl | false => (simp at g3 <;> omega))
  have hE : liN get s = (acc, (l2, b2)) := by rw [hL, hz]; simp
  refine sq29 ?_
  apply aend; exact resT
  · exact ⟨q1, hq1, by rw [hE]; rfl, by rw [hE]⟩
  · exact stleT
theorem list_ex {f : FuncId} {us vs : List AV} {r : Nat}  {get : St → Ex × St} (hg : Gets Tryz.prog f us vs (fun s => [(r, .box 149 (rdr s))]) (fun x => .agg (encEx x)) get) (s : St) (hs : SOk s) : SCall Tryz.prog 166 [.ptr r 0, .fn (.func f) us vs] [(r, .box 149 (rdr s))]
    (fun x σ => ∃ q, Fresh q [(r, .box 149 (rdr s))] ∧ x = .own q 0 (liN get s).1.length ∧ σ = [(q, .arr 66 2 ((liN get s).1.map encEx)), (r, .box 149 (rdr (liN get s).2))]) := by
  have h1 := wr_num r s hs
  have k1 := nu_ok s hs
  have kb := nu_bd s
  have hR : liN get s = lsN get (nuN s).1 (nuN s).2 := rfl
  generalize nuN s = p at h1 k1 kb hR
  obtain ⟨n, s1⟩ := p
  dsimp only at h1 k1 kb hR
  refine scall_of (n := 26) (ks := [0, 1, 4, 5, 6, 17]) Tryz.func166 rfl rfl (Nat.le_of_ble_eq_true rfl) ?_
  refine sq65 ?_
  refine sq2 ?_
  refine sw_virt 5 66 2 (by decide) rfl (by decide) (freshT fun q0 hq0 => ?_); repeat rcases hq0 with ⟨_, hq0⟩
  refine sq1 ?_
  refine cw [(r, .box 149 (rdr s))] Tryz.call96 h1 rfl argsleT stleT ?_
  rintro _ σ' ⟨rfl, rfl⟩ h8
  apply rs_sto; exact nflT
  refine sq2 ?_
  refine lp (β := Nat × Nat × St × List Ex) (fun b => ⟨[(0, .ptr r 0), (1, .fn (.func f) us vs), (5, .own b.1 0 b.2.2.2.length), (6, .int .i64 (b.2.1 : Nat))], [(b.1, .arr 66 2 (b.2.2.2.map encEx)), (r, .box 149 (rdr b.2.2.1))]⟩) (fun b => Fresh b.1 [(r, .box 149 (rdr s))] ∧ SOk b.2.2.1 ∧ b.2.1 + b.2.2.2.length ≤ 4294967296 ∧ liN get s = (b.2.2.2 ++ (lsN get b.2.1 b.2.2.1).1, (lsN get b.2.1 b.2.2.1).2)) (fun b => b.2.1) (q0, n, s1, []) sgoT ⟨frsT, k1, by show n + 0 ≤ 4294967296; omega, by rw [hR]; rfl⟩ ?_
  rintro ⟨q1, m, ⟨l2, b2⟩, acc⟩ ⟨hq1, hs2, hmb, hL⟩
  dsimp only at hq1 hs2 hmb hL ⊢
  have hq2 := hq1; simp only [fresh_cons, fresh_nil, and_true] at hq2; repeat rcases hq2 with ⟨_, hq2⟩
  unfold rdr
  dsimp only
  refine sq7 ?_
  refine sq47 ?_
  refine sq89 ?_
  refine z130 ?_
  refine sq91 ?_
  refine sw_cond rfl (fun g3 => ?_) (fun g3 => ?_)
  · obtain rfl : b2 = false := by cases b2 with | false => rfl | true => simp at g3
    obtain ⟨m, rfl⟩ : ∃ k, m = k + 1 := ⟨m - 1, by simp at g3; omega⟩
    have hrun := hg.run (l2, false) hs2
    have hk := hg.st (l2, false) hs2
    have hl : lsN get (m + 1) (l2, false) = ((get (l2, false)).1 :: (lsN get m (get (l2, false)).2).1, (lsN get m (get (l2, false)).2).2) := rfl
    rw [hl] at hL
    generalize get (l2, false) = p at hrun hk hL
    obtain ⟨x, s3⟩ := p
    dsimp only at hrun hk hL
    refine sq18 ?_
    refine cf_ [(r, .box 149 (rdr (l2, false)))] rfl hg.call hrun rfl argsleT stleT ?_
    rintro _ σ' ⟨rfl, rfl⟩ h22
    apply rs_sto; exact nflT
    refine z1 ?_; refine freshT fun r23 h23 => ?_; repeat rcases h23 with ⟨_, h23⟩
    refine apA ((acc ++ [x]).map encEx) (acc ++ [x]).length ?_
    refine apnT fun r24 h24 => ?_; repeat rcases h24 with ⟨_, h24⟩
    refine sq37 ?_
    refine z19 ?_
    rw [show ((m + 1 : Nat) : Int) - 1 = (m : Nat) by omega]
    refine sq2 ?_
    refine ⟨(r24, m, s3, acc ++ [x]), ⟨frsT, hk, by show m + (acc ++ [x]).length ≤ 4294967296; simp; omega, by rw [hL]; simp⟩, Nat.lt_succ_self _, ?_⟩
    dsimp only
    exact sgoT
  have hz : lsN get m (l2, b2) = ([], (l2, b2)) := by cases m with | zero => rfl | succ m => (cases b2 with | true => rfl | false => (simp at g3 <;> omega))
  have hE : liN get s = (acc, (l2, b2)) := by rw [hL, hz]; simp
  refine sq29 ?_
  apply aend; exact resT
  · exact ⟨q1, hq1, by rw [hE]; rfl, by rw [hE]⟩
  · exact stleT
theorem list_co {f : FuncId} {us vs : List AV} {r : Nat}  {get : St → Co × St} (hg : Gets Tryz.prog f us vs (fun s => [(r, .box 149 (rdr s))]) (fun x => .agg (encCo x)) get) (s : St) (hs : SOk s) : SCall Tryz.prog 171 [.ptr r 0, .fn (.func f) us vs] [(r, .box 149 (rdr s))]
    (fun x σ => ∃ q, Fresh q [(r, .box 149 (rdr s))] ∧ x = .own q 0 (liN get s).1.length ∧ σ = [(q, .arr 41 2 ((liN get s).1.map encCo)), (r, .box 149 (rdr (liN get s).2))]) := by
  have h1 := wr_num r s hs
  have k1 := nu_ok s hs
  have kb := nu_bd s
  have hR : liN get s = lsN get (nuN s).1 (nuN s).2 := rfl
  generalize nuN s = p at h1 k1 kb hR
  obtain ⟨n, s1⟩ := p
  dsimp only at h1 k1 kb hR
  refine scall_of (n := 26) (ks := [0, 1, 4, 5, 6, 17]) Tryz.func171 rfl rfl (Nat.le_of_ble_eq_true rfl) ?_
  refine sq65 ?_
  refine sq2 ?_
  refine sw_virt 5 41 2 (by decide) rfl (by decide) (freshT fun q0 hq0 => ?_); repeat rcases hq0 with ⟨_, hq0⟩
  refine sq1 ?_
  refine cw [(r, .box 149 (rdr s))] Tryz.call96 h1 rfl argsleT stleT ?_
  rintro _ σ' ⟨rfl, rfl⟩ h8
  apply rs_sto; exact nflT
  refine sq2 ?_
  refine lp (β := Nat × Nat × St × List Co) (fun b => ⟨[(0, .ptr r 0), (1, .fn (.func f) us vs), (5, .own b.1 0 b.2.2.2.length), (6, .int .i64 (b.2.1 : Nat))], [(b.1, .arr 41 2 (b.2.2.2.map encCo)), (r, .box 149 (rdr b.2.2.1))]⟩) (fun b => Fresh b.1 [(r, .box 149 (rdr s))] ∧ SOk b.2.2.1 ∧ b.2.1 + b.2.2.2.length ≤ 4294967296 ∧ liN get s = (b.2.2.2 ++ (lsN get b.2.1 b.2.2.1).1, (lsN get b.2.1 b.2.2.1).2)) (fun b => b.2.1) (q0, n, s1, []) sgoT ⟨frsT, k1, by show n + 0 ≤ 4294967296; omega, by rw [hR]; rfl⟩ ?_
  rintro ⟨q1, m, ⟨l2, b2⟩, acc⟩ ⟨hq1, hs2, hmb, hL⟩
  dsimp only at hq1 hs2 hmb hL ⊢
  have hq2 := hq1; simp only [fresh_cons, fresh_nil, and_true] at hq2; repeat rcases hq2 with ⟨_, hq2⟩
  unfold rdr
  dsimp only
  refine sq7 ?_
  refine sq47 ?_
  refine sq89 ?_
  refine z130 ?_
  refine sq91 ?_
  refine sw_cond rfl (fun g3 => ?_) (fun g3 => ?_)
  · obtain rfl : b2 = false := by cases b2 with | false => rfl | true => simp at g3
    obtain ⟨m, rfl⟩ : ∃ k, m = k + 1 := ⟨m - 1, by simp at g3; omega⟩
    have hrun := hg.run (l2, false) hs2
    have hk := hg.st (l2, false) hs2
    have hl : lsN get (m + 1) (l2, false) = ((get (l2, false)).1 :: (lsN get m (get (l2, false)).2).1, (lsN get m (get (l2, false)).2).2) := rfl
    rw [hl] at hL
    generalize get (l2, false) = p at hrun hk hL
    obtain ⟨x, s3⟩ := p
    dsimp only at hrun hk hL
    refine sq18 ?_
    refine cf_ [(r, .box 149 (rdr (l2, false)))] rfl hg.call hrun rfl argsleT stleT ?_
    rintro _ σ' ⟨rfl, rfl⟩ h22
    apply rs_sto; exact nflT
    refine z1 ?_; refine freshT fun r23 h23 => ?_; repeat rcases h23 with ⟨_, h23⟩
    refine apA ((acc ++ [x]).map encCo) (acc ++ [x]).length ?_
    refine apnT fun r24 h24 => ?_; repeat rcases h24 with ⟨_, h24⟩
    refine sq37 ?_
    refine z19 ?_
    rw [show ((m + 1 : Nat) : Int) - 1 = (m : Nat) by omega]
    refine sq2 ?_
    refine ⟨(r24, m, s3, acc ++ [x]), ⟨frsT, hk, by show m + (acc ++ [x]).length ≤ 4294967296; simp; omega, by rw [hL]; simp⟩, Nat.lt_succ_self _, ?_⟩
    dsimp only
    exact sgoT
  have hz : lsN get m (l2, b2) = ([], (l2, b2)) := by cases m with | zero => rfl | succ m => (cases b2 with | true => rfl | false => (simp at g3 <;> omega))
  have hE : liN get s = (acc, (l2, b2)) := by rw [hL, hz]; simp
  refine sq29 ?_
  apply aend; exact resT
  · exact ⟨q1, hq1, by rw [hE]; rfl, by rw [hE]⟩
  · exact stleT
theorem list_el {f : FuncId} {us vs : List AV} {r : Nat} {c : Nat} (hc : Nq r c) {get : St → El × St} (hg : Gets Tryz.prog f us vs (fun s => [(r, .box 149 (rdr s)), (c, .box 146 [.ptr r 0])]) (fun x => .agg (encEl x)) get) (s : St) (hs : SOk s) : SCall Tryz.prog 168 [.ptr r 0, .fn (.func f) us vs] [(r, .box 149 (rdr s)), (c, .box 146 [.ptr r 0])]
    (fun x σ => ∃ q, Fresh q [(r, .box 149 (rdr s)), (c, .box 146 [.ptr r 0])] ∧ x = .own q 0 (liN get s).1.length ∧ σ = [(q, .arr 68 2 ((liN get s).1.map encEl)), (r, .box 149 (rdr (liN get s).2)), (c, .box 146 [.ptr r 0])]) := by
  have h1 := wr_num r s hs
  have k1 := nu_ok s hs
  have kb := nu_bd s
  have hR : liN get s = lsN get (nuN s).1 (nuN s).2 := rfl
  generalize nuN s = p at h1 k1 kb hR
  obtain ⟨n, s1⟩ := p
  dsimp only at h1 k1 kb hR
  refine scall_of (n := 26) (ks := [0, 1, 4, 5, 6, 17]) Tryz.func168 rfl rfl (Nat.le_of_ble_eq_true rfl) ?_
  refine sq65 ?_
  refine sq2 ?_
  refine sw_virt 5 68 2 (by decide) rfl (by decide) (freshT fun q0 hq0 => ?_); repeat rcases hq0 with ⟨_, hq0⟩
  refine sq1 ?_
  refine cw [(r, .box 149 (rdr s))] Tryz.call96 h1 rfl argsleT stleT ?_
  rintro _ σ' ⟨rfl, rfl⟩ h8
  apply rs_sto; exact nflT
  refine sq2 ?_
  refine lp (β := Nat × Nat × St × List El) (fun b => ⟨[(0, .ptr r 0), (1, .fn (.func f) us vs), (5, .own b.1 0 b.2.2.2.length), (6, .int .i64 (b.2.1 : Nat))], [(b.1, .arr 68 2 (b.2.2.2.map encEl)), (r, .box 149 (rdr b.2.2.1)), (c, .box 146 [.ptr r 0])]⟩) (fun b => Fresh b.1 [(r, .box 149 (rdr s)), (c, .box 146 [.ptr r 0])] ∧ SOk b.2.2.1 ∧ b.2.1 + b.2.2.2.length ≤ 4294967296 ∧ liN get s = (b.2.2.2 ++ (lsN get b.2.1 b.2.2.1).1, (lsN get b.2.1 b.2.2.1).2)) (fun b => b.2.1) (q0, n, s1, []) sgoT ⟨frsT, k1, by show n + 0 ≤ 4294967296; omega, by rw [hR]; rfl⟩ ?_
  rintro ⟨q1, m, ⟨l2, b2⟩, acc⟩ ⟨hq1, hs2, hmb, hL⟩
  dsimp only at hq1 hs2 hmb hL ⊢
  have hq2 := hq1; simp only [fresh_cons, fresh_nil, and_true] at hq2; repeat rcases hq2 with ⟨_, hq2⟩
  unfold rdr
  dsimp only
  refine sq7 ?_
  refine sq47 ?_
  refine sq89 ?_
  refine z130 ?_
  refine sq91 ?_
  refine sw_cond rfl (fun g3 => ?_) (fun g3 => ?_)
  · obtain rfl : b2 = false := by cases b2 with | false => rfl | true => simp at g3
    obtain ⟨m, rfl⟩ : ∃ k, m = k + 1 := ⟨m - 1, by simp at g3; omega⟩
    have hrun := hg.run (l2, false) hs2
    have hk := hg.st (l2, false) hs2
    have hl : lsN get (m + 1) (l2, false) = ((get (l2, false)).1 :: (lsN get m (get (l2, false)).2).1, (lsN get m (get (l2, false)).2).2) := rfl
    rw [hl] at hL
    generalize get (l2, false) = p at hrun hk hL
    obtain ⟨x, s3⟩ := p
    dsimp only at hrun hk hL
    refine sq18 ?_
    refine cf_ [(r, .box 149 (rdr (l2, false))), (c, .box 146 [.ptr r 0])] rfl hg.call hrun rfl argsleT stleT ?_
    rintro _ σ' ⟨rfl, rfl⟩ h22
    apply rs_sto; exact nflT
    refine z1 ?_; refine freshT fun r23 h23 => ?_; repeat rcases h23 with ⟨_, h23⟩
    refine apA ((acc ++ [x]).map encEl) (acc ++ [x]).length ?_
    refine apnT fun r24 h24 => ?_; repeat rcases h24 with ⟨_, h24⟩
    refine sq37 ?_
    refine z19 ?_
    rw [show ((m + 1 : Nat) : Int) - 1 = (m : Nat) by omega]
    refine sq2 ?_
    refine ⟨(r24, m, s3, acc ++ [x]), ⟨frsT, hk, by show m + (acc ++ [x]).length ≤ 4294967296; simp; omega, by rw [hL]; simp⟩, Nat.lt_succ_self _, ?_⟩
    dsimp only
    exact sgoT
  have hz : lsN get m (l2, b2) = ([], (l2, b2)) := by cases m with | zero => rfl | succ m => (cases b2 with | true => rfl | false => (simp at g3 <;> omega))
  have hE : liN get s = (acc, (l2, b2)) := by rw [hL, hz]; simp
  refine sq29 ?_
  apply aend; exact resT
  · exact ⟨q1, hq1, by rw [hE]; rfl, by rw [hE]⟩
  · exact stleT
theorem list_da {f : FuncId} {us vs : List AV} {r : Nat} {c : Nat} (hc : Nq r c) {get : St → Da × St} (hg : Gets Tryz.prog f us vs (fun s => [(r, .box 149 (rdr s)), (c, .box 146 [.ptr r 0])]) (fun x => .agg (encDa x)) get) (s : St) (hs : SOk s) : SCall Tryz.prog 173 [.ptr r 0, .fn (.func f) us vs] [(r, .box 149 (rdr s)), (c, .box 146 [.ptr r 0])]
    (fun x σ => ∃ q, Fresh q [(r, .box 149 (rdr s)), (c, .box 146 [.ptr r 0])] ∧ x = .own q 0 (liN get s).1.length ∧ σ = [(q, .arr 71 2 ((liN get s).1.map encDa)), (r, .box 149 (rdr (liN get s).2)), (c, .box 146 [.ptr r 0])]) := by
  have h1 := wr_num r s hs
  have k1 := nu_ok s hs
  have kb := nu_bd s
  have hR : liN get s = lsN get (nuN s).1 (nuN s).2 := rfl
  generalize nuN s = p at h1 k1 kb hR
  obtain ⟨n, s1⟩ := p
  dsimp only at h1 k1 kb hR
  refine scall_of (n := 26) (ks := [0, 1, 4, 5, 6, 17]) Tryz.func173 rfl rfl (Nat.le_of_ble_eq_true rfl) ?_
  refine sq65 ?_
  refine sq2 ?_
  refine sw_virt 5 71 2 (by decide) rfl (by decide) (freshT fun q0 hq0 => ?_); repeat rcases hq0 with ⟨_, hq0⟩
  refine sq1 ?_
  refine cw [(r, .box 149 (rdr s))] Tryz.call96 h1 rfl argsleT stleT ?_
  rintro _ σ' ⟨rfl, rfl⟩ h8
  apply rs_sto; exact nflT
  refine sq2 ?_
  refine lp (β := Nat × Nat × St × List Da) (fun b => ⟨[(0, .ptr r 0), (1, .fn (.func f) us vs), (5, .own b.1 0 b.2.2.2.length), (6, .int .i64 (b.2.1 : Nat))], [(b.1, .arr 71 2 (b.2.2.2.map encDa)), (r, .box 149 (rdr b.2.2.1)), (c, .box 146 [.ptr r 0])]⟩) (fun b => Fresh b.1 [(r, .box 149 (rdr s)), (c, .box 146 [.ptr r 0])] ∧ SOk b.2.2.1 ∧ b.2.1 + b.2.2.2.length ≤ 4294967296 ∧ liN get s = (b.2.2.2 ++ (lsN get b.2.1 b.2.2.1).1, (lsN get b.2.1 b.2.2.1).2)) (fun b => b.2.1) (q0, n, s1, []) sgoT ⟨frsT, k1, by show n + 0 ≤ 4294967296; omega, by rw [hR]; rfl⟩ ?_
  rintro ⟨q1, m, ⟨l2, b2⟩, acc⟩ ⟨hq1, hs2, hmb, hL⟩
  dsimp only at hq1 hs2 hmb hL ⊢
  have hq2 := hq1; simp only [fresh_cons, fresh_nil, and_true] at hq2; repeat rcases hq2 with ⟨_, hq2⟩
  unfold rdr
  dsimp only
  refine sq7 ?_
  refine sq47 ?_
  refine sq89 ?_
  refine z130 ?_
  refine sq91 ?_
  refine sw_cond rfl (fun g3 => ?_) (fun g3 => ?_)
  · obtain rfl : b2 = false := by cases b2 with | false => rfl | true => simp at g3
    obtain ⟨m, rfl⟩ : ∃ k, m = k + 1 := ⟨m - 1, by simp at g3; omega⟩
    have hrun := hg.run (l2, false) hs2
    have hk := hg.st (l2, false) hs2
    have hl : lsN get (m + 1) (l2, false) = ((get (l2, false)).1 :: (lsN get m (get (l2, false)).2).1, (lsN get m (get (l2, false)).2).2) := rfl
    rw [hl] at hL
    generalize get (l2, false) = p at hrun hk hL
    obtain ⟨x, s3⟩ := p
    dsimp only at hrun hk hL
    refine sq18 ?_
    refine cf_ [(r, .box 149 (rdr (l2, false))), (c, .box 146 [.ptr r 0])] rfl hg.call hrun rfl argsleT stleT ?_
    rintro _ σ' ⟨rfl, rfl⟩ h22
    apply rs_sto; exact nflT
    refine z1 ?_; refine freshT fun r23 h23 => ?_; repeat rcases h23 with ⟨_, h23⟩
    refine apA ((acc ++ [x]).map encDa) (acc ++ [x]).length ?_
    refine apnT fun r24 h24 => ?_; repeat rcases h24 with ⟨_, h24⟩
    refine sq37 ?_
    refine z19 ?_
    rw [show ((m + 1 : Nat) : Int) - 1 = (m : Nat) by omega]
    refine sq2 ?_
    refine ⟨(r24, m, s3, acc ++ [x]), ⟨frsT, hk, by show m + (acc ++ [x]).length ≤ 4294967296; simp; omega, by rw [hL]; simp⟩, Nat.lt_succ_self _, ?_⟩
    dsimp only
    exact sgoT
  have hz : lsN get m (l2, b2) = ([], (l2, b2)) := by cases m with | zero => rfl | succ m => (cases b2 with | true => rfl | false => (simp at g3 <;> omega))
  have hE : liN get s = (acc, (l2, b2)) := by rw [hL, hz]; simp
  refine sq29 ?_
  apply aend; exact resT
  · exact ⟨q1, hq1, by rw [hE]; rfl, by rw [hE]⟩
  · exact stleT
theorem list_li {f : FuncId} {us vs : List AV} {r : Nat} {c d : Nat} {before : Bool} (hc : Nq r c) (hd : Nq r d) (hcd : Nq c d) {get : St → Li × St} (hg : Gets Tryz.prog f us vs (fun s => [(r, .box 149 (rdr s)), (c, .box 4 [.bool before]), (d, .box 146 [.ptr r 0])]) (fun x => .agg (encLi x)) get) (s : St) (hs : SOk s) : SCall Tryz.prog 219 [.ptr r 0, .fn (.func f) us vs] [(r, .box 149 (rdr s)), (c, .box 4 [.bool before]), (d, .box 146 [.ptr r 0])]
    (fun x σ => ∃ q, Fresh q [(r, .box 149 (rdr s)), (c, .box 4 [.bool before]), (d, .box 146 [.ptr r 0])] ∧ x = .own q 0 (liN get s).1.length ∧ σ = [(q, .arr 26 3 ((liN get s).1.map encLi)), (r, .box 149 (rdr (liN get s).2)), (c, .box 4 [.bool before]), (d, .box 146 [.ptr r 0])]) := by
  have h1 := wr_num r s hs
  have k1 := nu_ok s hs
  have kb := nu_bd s
  have hR : liN get s = lsN get (nuN s).1 (nuN s).2 := rfl
  generalize nuN s = p at h1 k1 kb hR
  obtain ⟨n, s1⟩ := p
  dsimp only at h1 k1 kb hR
  refine scall_of (n := 26) (ks := [0, 1, 4, 5, 6, 17]) Tryz.func219 rfl rfl (Nat.le_of_ble_eq_true rfl) ?_
  refine sq65 ?_
  refine sq2 ?_
  refine sw_virt 5 26 3 (by decide) rfl (by decide) (freshT fun q0 hq0 => ?_); repeat rcases hq0 with ⟨_, hq0⟩
  refine sq1 ?_
  refine cw [(r, .box 149 (rdr s))] Tryz.call96 h1 rfl argsleT stleT ?_
  rintro _ σ' ⟨rfl, rfl⟩ h8
  apply rs_sto; exact nflT
  refine sq2 ?_
  refine lp (β := Nat × Nat × St × List Li) (fun b => ⟨[(0, .ptr r 0), (1, .fn (.func f) us vs), (5, .own b.1 0 b.2.2.2.length), (6, .int .i64 (b.2.1 : Nat))], [(b.1, .arr 26 3 (b.2.2.2.map encLi)), (r, .box 149 (rdr b.2.2.1)), (c, .box 4 [.bool before]), (d, .box 146 [.ptr r 0])]⟩) (fun b => Fresh b.1 [(r, .box 149 (rdr s)), (c, .box 4 [.bool before]), (d, .box 146 [.ptr r 0])] ∧ SOk b.2.2.1 ∧ b.2.1 + b.2.2.2.length ≤ 4294967296 ∧ liN get s = (b.2.2.2 ++ (lsN get b.2.1 b.2.2.1).1, (lsN get b.2.1 b.2.2.1).2)) (fun b => b.2.1) (q0, n, s1, []) sgoT ⟨frsT, k1, by show n + 0 ≤ 4294967296; omega, by rw [hR]; rfl⟩ ?_
  rintro ⟨q1, m, ⟨l2, b2⟩, acc⟩ ⟨hq1, hs2, hmb, hL⟩
  dsimp only at hq1 hs2 hmb hL ⊢
  have hq2 := hq1; simp only [fresh_cons, fresh_nil, and_true] at hq2; repeat rcases hq2 with ⟨_, hq2⟩
  unfold rdr
  dsimp only
  refine sq7 ?_
  refine sq47 ?_
  refine sq89 ?_
  refine z130 ?_
  refine sq91 ?_
  refine sw_cond rfl (fun g3 => ?_) (fun g3 => ?_)
  · obtain rfl : b2 = false := by cases b2 with | false => rfl | true => simp at g3
    obtain ⟨m, rfl⟩ : ∃ k, m = k + 1 := ⟨m - 1, by simp at g3; omega⟩
    have hrun := hg.run (l2, false) hs2
    have hk := hg.st (l2, false) hs2
    have hl : lsN get (m + 1) (l2, false) = ((get (l2, false)).1 :: (lsN get m (get (l2, false)).2).1, (lsN get m (get (l2, false)).2).2) := rfl
    rw [hl] at hL
    generalize get (l2, false) = p at hrun hk hL
    obtain ⟨x, s3⟩ := p
    dsimp only at hrun hk hL
    refine sq18 ?_
    refine cf_ [(r, .box 149 (rdr (l2, false))), (c, .box 4 [.bool before]), (d, .box 146 [.ptr r 0])] rfl hg.call hrun rfl argsleT stleT ?_
    rintro _ σ' ⟨rfl, rfl⟩ h22
    apply rs_sto; exact nflT
    refine z1 ?_; refine freshT fun r23 h23 => ?_; repeat rcases h23 with ⟨_, h23⟩
    refine apA ((acc ++ [x]).map encLi) (acc ++ [x]).length ?_
    refine apnT fun r24 h24 => ?_; repeat rcases h24 with ⟨_, h24⟩
    refine sq37 ?_
    refine z19 ?_
    rw [show ((m + 1 : Nat) : Int) - 1 = (m : Nat) by omega]
    refine sq2 ?_
    refine ⟨(r24, m, s3, acc ++ [x]), ⟨frsT, hk, by show m + (acc ++ [x]).length ≤ 4294967296; simp; omega, by rw [hL]; simp⟩, Nat.lt_succ_self _, ?_⟩
    dsimp only
    exact sgoT
  have hz : lsN get m (l2, b2) = ([], (l2, b2)) := by cases m with | zero => rfl | succ m => (cases b2 with | true => rfl | false => (simp at g3 <;> omega))
  have hE : liN get s = (acc, (l2, b2)) := by rw [hL, hz]; simp
  refine sq29 ?_
  apply aend; exact resT
  · exact ⟨q1, hq1, by rw [hE]; rfl, by rw [hE]⟩
  · exact stleT
theorem wr_kind (r : Nat) (s : St) (hs : SOk s) : SCall Tryz.prog 217 [.ptr r 0] [(r, .box 149 (rdr s))]
    (fun x σ => x = .int .i64 (kiN s).1 ∧ σ = [(r, .box 149 (rdr (kiN s).2))]) := by
  have h1 := wr_byte r s hs
  have hK : kiN s = if ((byN s).1 == 127) = true then (1, (byN s).2) else if ((byN s).1 == 126) = true then (2, (byN s).2) else (0, ((byN s).2.1, true)) := rfl
  generalize byN s = p at h1 hK
  obtain ⟨c, l2, b2⟩ := p
  dsimp only at h1 hK
  have ht : ∀ k : Nat, ((c : Int) == (k : Int)) = (c == k) := fun k => by rw [Bool.eq_iff_iff]; simp only [beq_iff_eq]; omega
  refine scall_of (n := 12) (ks := [0, 2, 4, 5, 7]) Tryz.func217 rfl rfl (Nat.le_of_ble_eq_true rfl) ?_
  refine sq62 ?_
  refine cw [(r, .box 149 (rdr s))] Tryz.call95 h1 rfl argsleT stleT ?_
  rintro _ σ' ⟨rfl, rfl⟩ h4
  apply rs_sto; exact nflT
  refine sq4 ?_
  unfold rdr
  dsimp only
  refine sq42 ?_
  refine sw_cond rfl (fun g2 => ?_) (fun g2 => ?_)
  · have hE : kiN s = (1, (l2, b2)) := by rw [hK, if_pos ((ht 127).symm.trans g2)]
    refine sq8 ?_
    apply aend; exact resT
    · exact ⟨by rw [hE]; rfl, by rw [hE]⟩
    · exact stleT
  refine sq24 ?_
  refine sw_cond rfl (fun g4 => ?_) (fun g4 => ?_)
  · have hE : kiN s = (2, (l2, b2)) := by rw [hK, if_neg (by rw [← ht 127]; exact fun h => by rw [show ((c : Int) == ((127 : Nat) : Int)) = false from g2] at h; cases h), if_pos ((ht 126).symm.trans g4)]
    refine sq8 ?_
    apply aend; exact resT
    · exact ⟨by rw [hE]; rfl, by rw [hE]⟩
    · exact stleT
  have hE : kiN s = (0, (l2, true)) := by rw [hK, if_neg (by rw [← ht 127]; exact fun h => by rw [show ((c : Int) == ((127 : Nat) : Int)) = false from g2] at h; cases h), if_neg (by rw [← ht 126]; exact fun h => by rw [show ((c : Int) == ((126 : Nat) : Int)) = false from g4] at h; cases h)]
  refine sq90 ?_
  apply stp; rfl; rfl; rfl; rfl; (exact sputT)
  refine sq79 ?_
  apply aend; exact resT
  · exact ⟨by rw [hE]; rfl, by rw [hE]⟩
  · exact stleT
/-
  Reading a module's parts: names, constants, places, limits, runs of locals.
-/
theorem wr_text (r : Nat) (s : St) (hs : SOk s) : SCall Tryz.prog 218 [.ptr r 0] [(r, .box 149 (rdr s))]
    (fun x σ => x = .str (strU (roN s).1) ∧ σ = [(r, .box 149 (rdr (roN s).2))]) := by
  have w1 := wr_row r s hs
  generalize roN s = p at w1
  obtain ⟨l, s2⟩ := p
  dsimp only at w1
  refine scall_of (n := 6) (ks := [0, 2]) Tryz.func218 rfl rfl (Nat.le_of_ble_eq_true rfl) ?_
  refine sq62 ?_
  refine cw [(r, .box 149 (rdr s))] Tryz.call175 w1 rfl argsleT stleT ?_
  rintro _ σ' ⟨q, hq, rfl, rfl⟩ h4
  apply rs_sto; exact nflT
  refine z145 ?_
  refine sq2 ?_
  apply aend; exact resT
  · exact ⟨rfl, rfl⟩
  · exact stleT
theorem wr_constant (r : Nat) (s : St) (hs : SOk s) : SCall Tryz.prog 222 [.ptr r 0] [(r, .box 149 (rdr s))]
    (fun x σ => x = .agg [.int .i64 (coN s).1.1, .int .i64 (coN s).1.2] ∧ σ = [(r, .box 149 (rdr (coN s).2))]) := by
  have hk := fun n ok => wr_skip r s hs n ok
  have hk2 := fun n ok => wr_byte r _ (sk_ok hs n ok)
  have hC : coN s = (if ((getP s.1).1.op == 66) = true then (2, (getP s.1).1.a) else (1, (getP s.1).1.a), (byN (skN s (getP s.1).2.1 (((getP s.1).2.2 == 0) && ((getP s.1).1.op == 65 || (getP s.1).1.op == 66)))).2) := rfl
  have hget := instr_get s.1 (by have := hs.1; omega) hs.2
  obtain ⟨l, bad⟩ := s
  dsimp only at hC hget
  generalize getP l = p at hC hget
  obtain ⟨x, n, e⟩ := p
  dsimp only at hC hget
  have hB : (if (e == 0) = true then (if (x.op == 65) = true then true else x.op == 66) else false) = ((e == 0) && (x.op == 65 || x.op == 66)) := by cases (e == 0) <;> cases (x.op == 65) <;> rfl
  have w1 := hk n ((e == 0) && (x.op == 65 || x.op == 66))
  have w2 := hk2 n ((e == 0) && (x.op == 65 || x.op == 66))
  generalize ((e == 0) && (x.op == 65 || x.op == 66)) = B at hB w1 w2 hC
  generalize skN (l, bad) n B = s2 at w1 w2 hC
  generalize byN s2 = p3 at w2 hC
  obtain ⟨c, s3⟩ := p3
  dsimp only at w2 hC
  refine scall_of (n := 41) (ks := [0, 2, 3, 4, 5, 34]) Tryz.func222 rfl rfl (Nat.le_of_ble_eq_true rfl) ?_
  unfold rdr
  dsimp only
  refine sq3 ?_
  apply al; rfl; (exact zcT); refine freshT fun r2 h2 => ?_; repeat rcases h2 with ⟨_, h2⟩
  refine sq27 ?_
  refine sq38 ?_
  refine cw [] Tryz.call244 hget rfl argsleT stleT ?_
  rintro _ σ' ⟨q, rfl, rfl⟩ h11
  replace h11 := cnewT h11; repeat rcases h11 with ⟨_, h11⟩
  apply rs_sto; exact nflT
  refine sq74 ?_
  apply al; rfl; (exact zcT); refine freshT fun r3 h3 => ?_; repeat rcases h3 with ⟨_, h3⟩
  unfold io
  apply stp; rfl; rfl; rfl; rfl; (exact sputT)
  refine sq12 ?_
  refine sq5 ?_
  refine sq66 ?_
  refine sq50 ?_
  refine z112 ?_
  refine z133 ?_
  refine z134 ?_
  refine z135 ?_
  refine z146 ?_
  refine z147 ?_
  refine z68 ?_
  rw [hB]
  refine cw [(r, .box 149 (rdr (l, bad)))] Tryz.call94 w1 rfl argsleT stleT ?_
  rintro _ σ' ⟨rfl, rfl⟩ h29
  apply rs_sto; exact nflT
  refine sq27 ?_
  refine cw [(r, .box 149 (rdr s2))] Tryz.call95 w2 rfl argsleT stleT ?_
  rintro _ σ' ⟨rfl, rfl⟩ h31
  apply rs_sto; exact nflT
  refine leT ?_
  refine sq63 ?_
  refine sq34 ?_
  refine sw_cond rfl (fun g4 => ?_) (fun g4 => ?_)
  · have hE : coN (l, bad) = ((2, x.a), s3) := by rw [hC, if_pos g4]
    refine sq63 ?_
    refine z93 ?_
    apply stp; rfl; rfl; rfl; rfl; (exact sputT)
    refine sq4 ?_
    apply aend; exact resT
    · exact ⟨by rw [hE]; rfl, by rw [hE]⟩
    · exact stleT
  have hE : coN (l, bad) = ((1, x.a), s3) := by rw [hC, if_neg (by rw [g4]; simp)]
  refine sq63 ?_
  refine z93 ?_
  apply stp; rfl; rfl; rfl; rfl; (exact sputT)
  refine sq4 ?_
  apply aend; exact resT
  · exact ⟨by rw [hE]; rfl, by rw [hE]⟩
  · exact stleT
theorem wr_place (r : Nat) (s : St) (hs : SOk s) : SCall Tryz.prog 170 [.ptr r 0] [(r, .box 149 (rdr s))]
    (fun x σ => x = .int .i64 (plN s).1 ∧ σ = [(r, .box 149 (rdr (plN s).2))]) := by
  have w1 := wr_byte r s hs
  have w2 := wr_constant r _ (by_ok s hs)
  refine scall_of (n := 8) (ks := [0, 2]) Tryz.func170 rfl rfl (Nat.le_of_ble_eq_true rfl) ?_
  refine sq62 ?_
  refine cw [(r, .box 149 (rdr s))] Tryz.call95 w1 rfl argsleT stleT ?_
  rintro _ σ' ⟨rfl, rfl⟩ h4
  apply rs_sto; exact nflT
  refine sq27 ?_
  refine cw [(r, .box 149 (rdr (byN s).2))] Tryz.call222 w2 rfl argsleT stleT ?_
  rintro _ σ' ⟨rfl, rfl⟩ h6
  apply rs_sto; exact nflT
  refine z148 ?_
  refine sq2 ?_
  apply aend; exact resT
  · exact ⟨rfl, rfl⟩
  · exact stleT
theorem wr_limits (r : Nat) (s : St) (hs : SOk s) : SCall Tryz.prog 221 [.ptr r 0] [(r, .box 149 (rdr s))]
    (fun x σ => x = .agg (encLi (lmN s).1) ∧ σ = [(r, .box 149 (rdr (lmN s).2))]) := by
  have w1 := wr_byte r s hs
  have w2 := wr_num r _ (by_ok s hs)
  have w3 := wr_num r _ (nu_ok _ (by_ok s hs))
  have hL : lmN s = if ((byN s).1 != 0) = true then (⟨true, (nuN (byN s).2).1, (nuN (nuN (byN s).2).2).1⟩, (nuN (nuN (byN s).2).2).2) else (⟨true, (nuN (byN s).2).1, -1⟩, (nuN (byN s).2).2) := rfl
  generalize byN s = p1 at w1 w2 w3 hL
  obtain ⟨c, s1⟩ := p1
  dsimp only at w1 w2 w3 hL
  generalize nuN s1 = p2 at w2 w3 hL
  obtain ⟨a, s2⟩ := p2
  dsimp only at w2 w3 hL
  generalize nuN s2 = p3 at w3 hL
  obtain ⟨d, s3⟩ := p3
  dsimp only at w3 hL
  have ht : ((c : Int) != 0) = (c != 0) := by rw [Bool.eq_iff_iff]; simp only [bne_iff_ne, ne_eq]; omega
  refine scall_of (n := 17) (ks := [0, 2, 3, 4, 12]) Tryz.func221 rfl rfl (Nat.le_of_ble_eq_true rfl) ?_
  refine sq3 ?_
  apply al; rfl; (exact zcT); refine freshT fun r2 h2 => ?_; repeat rcases h2 with ⟨_, h2⟩
  refine sq75 ?_
  refine z93 ?_
  apply al; rfl; (exact zcT); refine freshT fun r3 h3 => ?_; repeat rcases h3 with ⟨_, h3⟩
  apply stp; rfl; rfl; rfl; rfl; (exact sputT)
  refine sq27 ?_
  refine cw [(r, .box 149 (rdr s))] Tryz.call95 w1 rfl argsleT stleT ?_
  rintro _ σ' ⟨rfl, rfl⟩ h7
  apply rs_sto; exact nflT
  refine lo (lop_neq (E rfl) (E rfl)) rfl ?_
  refine sq37 ?_
  refine cw [(r, .box 149 (rdr s1))] Tryz.call96 w2 rfl argsleT stleT ?_
  rintro _ σ' ⟨rfl, rfl⟩ h10
  apply rs_sto; exact nflT
  refine z59 ?_
  apply stp; rfl; rfl; rfl; rfl; (exact sputT)
  refine sq27 ?_
  refine sq4 ?_
  refine sw_cond rfl (fun g4 => ?_) (fun g4 => ?_)
  · have hE : lmN s = (⟨true, a, d⟩, s3) := by rw [hL, if_pos (ht.symm.trans g4)]
    refine sq7 ?_
    refine cw [(r, .box 149 (rdr s2))] Tryz.call96 w3 rfl argsleT stleT ?_
    rintro _ σ' ⟨rfl, rfl⟩ h14
    apply rs_sto; exact nflT
    refine z59 ?_
    apply stp; rfl; rfl; rfl; rfl; (exact sputT)
    refine sq75 ?_
    refine z99 ?_
    apply stp; rfl; rfl; rfl; rfl; (exact sputT)
    refine sq4 ?_
    apply aend; exact resT
    · exact ⟨by rw [hE]; rfl, by rw [hE]⟩
    · exact stleT
  have hE : lmN s = (⟨true, a, -1⟩, s2) := by rw [hL, if_neg (by rw [← ht]; exact fun h => by rw [show ((c : Int) != 0) = false from g4] at h; cases h)]
  refine sq3 ?_
  refine z99 ?_
  apply stp; rfl; rfl; rfl; rfl; (exact sputT)
  refine sq4 ?_
  apply aend; exact resT
  · exact ⟨by rw [hE]; rfl, by rw [hE]⟩
  · exact stleT
/-
  Reading a module's parts: locals, codes, types, imports, globals, exports.
-/
theorem rep_int (d : Int) (c : Nat) (hc : c ≤ 100000) : SCall Tryz.prog 245 [.ro 1 [[.int .i64 d]] .any, .int .i64 c] [] (fun x σ => ∃ r, x = .own r 0 (List.replicate c d).length ∧ σ = [(r, .arr 3 1 ((List.replicate c d).map encI))]) := by
  refine (lib_repeat_int (v := .int .i64 d) rfl c hc).mono fun x σ h => ?_
  rw [List.length_replicate, List.map_replicate]
  exact h
theorem wr_locals (r : Nat) (s : St) (hs : SOk s) : SCall Tryz.prog 223 [.ptr r 0] [(r, .box 149 (rdr s))]
    (fun x σ => ∃ q, Nq q r ∧ x = .own q 0 (ruN s).1.length ∧ σ = [(q, .arr 3 1 ((ruN s).1.map encI)), (r, .box 149 (rdr (ruN s).2))]) := by
  have w1 := wr_num r s hs
  have k1 := nu_ok s hs
  have kb := nu_bd s
  have hR : ruN s = loN (nuN s).1 (nuN s).2 [] := rfl
  generalize nuN s = p at w1 k1 kb hR
  obtain ⟨n, s1⟩ := p
  dsimp only at w1 k1 kb hR
  refine scall_of (n := 36) (ks := [0, 2, 3, 4, 5, 6, 17, 25]) Tryz.func223 rfl rfl (Nat.le_of_ble_eq_true rfl) ?_
  refine sq65 ?_
  refine sq2 ?_
  refine sw_virt 3 3 1 (by decide) rfl (by decide) (freshT fun q0 hq0 => ?_); repeat rcases hq0 with ⟨_, hq0⟩
  refine sq1 ?_
  refine cw [(r, .box 149 (rdr s))] Tryz.call96 w1 rfl argsleT stleT ?_
  rintro _ σ' ⟨rfl, rfl⟩ h8
  apply rs_sto; exact nflT
  refine sq2 ?_
  refine lp (β := Nat × Nat × St × List Int) (fun b => ⟨[(0, .ptr r 0), (2, .ro 0 [] .nil), (3, .own b.1 0 b.2.2.2.length), (4, .int .i64 (b.2.1 : Nat))], [(b.1, .arr 3 1 (b.2.2.2.map encI)), (r, .box 149 (rdr b.2.2.1))]⟩) (fun b => Nq b.1 r ∧ SOk b.2.2.1 ∧ 32 * b.2.1 + b.2.2.2.length ≤ 137438953472 ∧ ruN s = loN b.2.1 b.2.2.1 b.2.2.2) (fun b => b.2.1) (q0, n, s1, []) sgoT ⟨by show Nq q0 r; (exact nqT), k1, by show 32 * n + 0 ≤ 137438953472; omega, by rw [hR]⟩ ?_
  rintro ⟨q1, m, ⟨l2, b2⟩, acc⟩ ⟨hq1, hs2, hmb, hL⟩
  dsimp only at hq1 hs2 hmb hL ⊢
  unfold rdr
  dsimp only
  refine sq7 ?_
  refine sq47 ?_
  refine sq89 ?_
  refine z130 ?_
  refine sq91 ?_
  refine sw_cond rfl (fun g3 => ?_) (fun g3 => ?_)
  · obtain rfl : b2 = false := by cases b2 with | false => rfl | true => simp at g3
    obtain ⟨m, rfl⟩ : ∃ k, m = k + 1 := ⟨m - 1, by simp at g3; omega⟩
    have wn := wr_num r (l2, false) hs2
    have kn := nu_ok (l2, false) hs2
    have wk := wr_kind r _ kn
    have kk := ki_ok _ kn
    have hl : loN (m + 1) (l2, false) acc = if 32 < (nuN (l2, false)).1 then ([], ((kiN (nuN (l2, false)).2).2.1, true)) else loN m (kiN (nuN (l2, false)).2).2 (acc ++ List.replicate (nuN (l2, false)).1 (kiN (nuN (l2, false)).2).1) := by rw [loN]; rfl
    rw [hl] at hL
    generalize nuN (l2, false) = p2 at wn kn wk kk hL
    obtain ⟨c, s3⟩ := p2
    dsimp only at wn kn wk kk hL
    generalize kiN s3 = p3 at wk kk hL
    obtain ⟨d, l4, b4⟩ := p3
    dsimp only at wk kk hL
    refine sq7 ?_
    refine cw [(r, .box 149 (rdr (l2, false)))] Tryz.call96 wn rfl argsleT stleT ?_
    rintro _ σ' ⟨rfl, rfl⟩ h21
    apply rs_sto; exact nflT
    refine sq37 ?_
    refine cw [(r, .box 149 (rdr s3))] Tryz.call217 wk rfl argsleT stleT ?_
    rintro _ σ' ⟨rfl, rfl⟩ h23
    apply rs_sto; exact nflT
    refine sq2 ?_
    unfold rdr
    dsimp only
    refine sq1 ?_
    refine sq56 ?_
    refine sw_cond rfl (fun g7 => ?_) (fun g7 => ?_)
    · have hE : ruN s = ([], (l4, true)) := by rw [hL, if_pos (by simp at g7; omega)]
      refine sq90 ?_
      apply stp; rfl; rfl; rfl; rfl; (exact sputT)
      refine sq75 ?_
      refine sq0 ?_
      refine an ?_
      refine sw_virt 2 3 1 (by decide) rfl (by decide) (freshT fun q2 hq2 => ?_); repeat rcases hq2 with ⟨_, hq2⟩
      refine ctlT ?_
      apply aend; exact resT
      · exact ⟨q2, by (exact nqT), by rw [hE]; rfl, by rw [hE]⟩
      · exact stleT
    have hc : c ≤ 32 := by simp at g7; omega
    rw [if_neg (by omega)] at hL
    refine sq18 ?_
    refine z1 ?_; refine freshT fun r31 h31 => ?_; repeat rcases h31 with ⟨_, h31⟩
    refine lo (lop_move (E rfl)) rfl ?_
    refine clA Tryz.call245 (rep_int d c (by omega)) rfl bargsT noT ?_
    rintro _ σ' ⟨r33, rfl, rfl⟩ h33
    replace h33 := lnewT h33; repeat rcases h33 with ⟨_, h33⟩
    apply rs_sto; exact nflT
    refine apA ((acc ++ List.replicate c d).map encI) (acc ++ List.replicate c d).length ?_
    refine apnT fun r34 h34 => ?_; repeat rcases h34 with ⟨_, h34⟩
    refine sq37 ?_
    refine z19 ?_
    rw [show ((m + 1 : Nat) : Int) - 1 = (m : Nat) by omega]
    refine sq2 ?_
    refine ⟨(r34, m, (l4, b4), acc ++ List.replicate c d), ⟨by show Nq r34 r; (exact nqT), kk, by show 32 * m + (acc ++ List.replicate c d).length ≤ 137438953472; simp; omega, hL⟩, Nat.lt_succ_self _, ?_⟩
    dsimp only
    exact sgoT
  have hz : loN m (l2, b2) acc = (acc, (l2, b2)) := by cases m with | zero => rfl | succ m => (cases b2 with | true => rfl | false => (simp at g3 <;> omega))
  have hE : ruN s = (acc, (l2, b2)) := by rw [hL, hz]
  refine sq29 ?_
  apply aend; exact resT
  · exact ⟨q1, by (exact nqT), by rw [hE]; rfl, by rw [hE]⟩
  · exact stleT
theorem gets_kind (r : Nat) : Gets Tryz.prog 217 [.ptr r 0] [] (fun s => [(r, .box 149 (rdr s))]) (fun n => .int .i64 n) kiN := ⟨Tryz.call217, ki_ok, fun s hs => wr_kind r s hs⟩
theorem gets_num (r : Nat) : Gets Tryz.prog 96 [.ptr r 0] [] (fun s => [(r, .box 149 (rdr s))]) (fun n => .int .i64 n) inN := ⟨Tryz.call96, in_ok, fun s hs => wr_num r s hs⟩
theorem wr_type (r : Nat) (s : St) (hs : SOk s) : SCall Tryz.prog 159 [.ptr r 0] [(r, .box 149 (rdr s))]
    (fun x σ => x = .agg (encFT (tyN s).1) ∧ σ = [(r, .box 149 (rdr (tyN s).2))]) := by
  have w1 := wr_byte r s hs
  have k1 := by_ok s hs
  have w2 := list_int (gets_kind r) _ k1
  have k2 := li_ok ki_ok _ k1
  have w3 := list_int (gets_kind r) _ k2
  have hT : tyN s = (⟨(liN kiN (byN s).2).1, (liN kiN (liN kiN (byN s).2).2).1⟩, (liN kiN (liN kiN (byN s).2).2).2) := rfl
  rw [hT]
  generalize (byN s).2 = s1 at w1 w2 w3
  generalize liN kiN s1 = p2 at w2 w3
  obtain ⟨a, s2⟩ := p2
  dsimp only at w2 w3
  generalize liN kiN s2 = p3 at w3
  obtain ⟨c, s3⟩ := p3
  dsimp only at w3
  refine scall_of (n := 14) (ks := [0, 2]) Tryz.func159 rfl rfl (Nat.le_of_ble_eq_true rfl) ?_
  refine sq3 ?_
  apply al; rfl; (exact zcT); refine freshT fun r2 h2 => ?_; repeat rcases h2 with ⟨_, h2⟩
  refine sq27 ?_
  refine cw [(r, .box 149 (rdr s))] Tryz.call95 w1 rfl argsleT stleT ?_
  rintro _ σ' ⟨rfl, rfl⟩ h4
  apply rs_sto; exact nflT
  refine sq49 ?_
  refine z149 ?_
  refine cw [(r, .box 149 (rdr s1))] Tryz.call162 w2 rfl argsleT stleT ?_
  rintro _ σ' ⟨q8, hq8, rfl, rfl⟩ h8
  simp only [fresh_cons, fresh_nil, and_true] at hq8
  have k8 := rest1T h8; repeat rcases k8 with ⟨_, k8⟩
  apply rs_sto; exact nflT
  refine fzv (j := 8) rfl sdelT (bor_own sgT (by simp)) ?_
  refine sq51 ?_
  refine z149 ?_
  refine cw [(r, .box 149 (rdr s2))] Tryz.call162 w3 rfl argsleT stleT ?_
  rintro _ σ' ⟨q12, hq12, rfl, rfl⟩ h12
  simp only [fresh_cons, fresh_nil, and_true] at hq12
  have k12 := rest1T h12; repeat rcases k12 with ⟨_, k12⟩
  apply rs_sto; exact nflT
  refine fzv (j := 12) rfl sdelT (bor_own sgT (by simp)) ?_
  refine z93 ?_
  apply stp; rfl; rfl; rfl; rfl; (exact sputT)
  refine sq4 ?_
  apply aend; exact resT
  · exact ⟨rfl, rfl⟩
  · exact stleT
theorem wr_import (r : Nat) (s : St) (hs : SOk s) : SCall Tryz.prog 161 [.ptr r 0] [(r, .box 149 (rdr s))]
    (fun x σ => x = .agg (encIm (imN s).1) ∧ σ = [(r, .box 149 (rdr (imN s).2))]) := by
  have w1 := wr_text r s hs
  have k1 := ro_ok s hs
  have w2 := wr_text r _ k1
  have k2 := ro_ok _ k1
  have w3 := wr_byte r _ k2
  have w4 := wr_num r _ (by_ok _ k2)
  refine scall_of (n := 15) (ks := [0, 2, 3]) Tryz.func161 rfl rfl (Nat.le_of_ble_eq_true rfl) ?_
  refine sq3 ?_
  apply al; rfl; (exact zcT); refine freshT fun r2 h2 => ?_; repeat rcases h2 with ⟨_, h2⟩
  refine sq27 ?_
  refine cw [(r, .box 149 (rdr s))] Tryz.call218 w1 rfl argsleT stleT ?_
  rintro _ σ' ⟨rfl, rfl⟩ h5
  apply rs_sto; exact nflT
  refine lo (lop_move (E rfl)) rfl ?_
  refine cw [(r, .box 149 (rdr (roN s).2))] Tryz.call218 w2 rfl argsleT stleT ?_
  rintro _ σ' ⟨rfl, rfl⟩ h7
  apply rs_sto; exact nflT
  refine z93 ?_
  apply al; rfl; (exact zcT); refine freshT fun r3 h3 => ?_; repeat rcases h3 with ⟨_, h3⟩
  apply stp; rfl; rfl; rfl; rfl; (exact sputT)
  refine sq27 ?_
  refine cw [(r, .box 149 (rdr (roN (roN s).2).2))] Tryz.call95 w3 rfl argsleT stleT ?_
  rintro _ σ' ⟨rfl, rfl⟩ h10
  apply rs_sto; exact nflT
  refine sq27 ?_
  refine cw [(r, .box 149 (rdr (byN (roN (roN s).2).2).2))] Tryz.call96 w4 rfl argsleT stleT ?_
  rintro _ σ' ⟨rfl, rfl⟩ h12
  apply rs_sto; exact nflT
  refine z59 ?_
  apply stp; rfl; rfl; rfl; rfl; (exact sputT)
  refine sq75 ?_
  refine z99 ?_
  apply stp; rfl; rfl; rfl; rfl; (exact sputT)
  refine sq4 ?_
  apply aend; exact resT
  · exact ⟨rfl, rfl⟩
  · exact stleT
theorem wr_global (r : Nat) (s : St) (hs : SOk s) : SCall Tryz.prog 165 [.ptr r 0] [(r, .box 149 (rdr s))]
    (fun x σ => x = .agg (encGl (glN s).1) ∧ σ = [(r, .box 149 (rdr (glN s).2))]) := by
  have w1 := wr_kind r s hs
  have k1 := ki_ok s hs
  have w2 := wr_byte r _ k1
  have k2 := by_ok _ k1
  have w3 := wr_constant r _ k2
  have ht : (((byN (kiN s).2).1 : Int) != 0) = ((byN (kiN s).2).1 != 0) := by rw [Bool.eq_iff_iff]; simp only [bne_iff_ne, ne_eq]; omega
  refine scall_of (n := 11) (ks := [0, 2]) Tryz.func165 rfl rfl (Nat.le_of_ble_eq_true rfl) ?_
  refine sq3 ?_
  apply al; rfl; (exact zcT); refine freshT fun r2 h2 => ?_; repeat rcases h2 with ⟨_, h2⟩
  refine sq27 ?_
  refine cw [(r, .box 149 (rdr s))] Tryz.call217 w1 rfl argsleT stleT ?_
  rintro _ σ' ⟨rfl, rfl⟩ h4
  apply rs_sto; exact nflT
  refine sq27 ?_
  refine cw [(r, .box 149 (rdr (kiN s).2))] Tryz.call95 w2 rfl argsleT stleT ?_
  rintro _ σ' ⟨rfl, rfl⟩ h6
  apply rs_sto; exact nflT
  refine lo (lop_neq (E rfl) (E rfl)) rfl ?_
  rw [ht]
  refine lo (lop_move (E rfl)) rfl ?_
  refine cw [(r, .box 149 (rdr (byN (kiN s).2).2))] Tryz.call222 w3 rfl argsleT stleT ?_
  rintro _ σ' ⟨rfl, rfl⟩ h9
  apply rs_sto; exact nflT
  refine z93 ?_
  apply stp; rfl; rfl; rfl; rfl; (exact sputT)
  refine sq4 ?_
  apply aend; exact resT
  · exact ⟨rfl, rfl⟩
  · exact stleT
theorem wr_export (r : Nat) (s : St) (hs : SOk s) : SCall Tryz.prog 167 [.ptr r 0] [(r, .box 149 (rdr s))]
    (fun x σ => x = .agg (encEx (exN s).1) ∧ σ = [(r, .box 149 (rdr (exN s).2))]) := by
  have w1 := wr_text r s hs
  have k1 := ro_ok s hs
  have w3 := wr_byte r _ k1
  have w4 := wr_num r _ (by_ok _ k1)
  refine scall_of (n := 13) (ks := [0, 2, 3]) Tryz.func167 rfl rfl (Nat.le_of_ble_eq_true rfl) ?_
  refine sq3 ?_
  apply al; rfl; (exact zcT); refine freshT fun r2 h2 => ?_; repeat rcases h2 with ⟨_, h2⟩
  refine sq27 ?_
  refine cw [(r, .box 149 (rdr s))] Tryz.call218 w1 rfl argsleT stleT ?_
  rintro _ σ' ⟨rfl, rfl⟩ h5
  apply rs_sto; exact nflT
  refine z93 ?_
  apply al; rfl; (exact zcT); refine freshT fun r3 h3 => ?_; repeat rcases h3 with ⟨_, h3⟩
  apply stp; rfl; rfl; rfl; rfl; (exact sputT)
  refine sq27 ?_
  refine cw [(r, .box 149 (rdr (roN s).2))] Tryz.call95 w3 rfl argsleT stleT ?_
  rintro _ σ' ⟨rfl, rfl⟩ h8
  apply rs_sto; exact nflT
  refine sq27 ?_
  refine cw [(r, .box 149 (rdr (byN (roN s).2).2))] Tryz.call96 w4 rfl argsleT stleT ?_
  rintro _ σ' ⟨rfl, rfl⟩ h10
  apply rs_sto; exact nflT
  refine z59 ?_
  apply stp; rfl; rfl; rfl; rfl; (exact sputT)
  refine sq75 ?_
  refine z99 ?_
  apply stp; rfl; rfl; rfl; rfl; (exact sputT)
  refine sq4 ?_
  apply aend; exact resT
  · exact ⟨rfl, rfl⟩
  · exact stleT
theorem vle_co (ls : List Int) : VLe (.agg [.ro 1 (ls.map encI) .any, .ro 0 [] .nil]) (.agg (encCo ⟨ls, []⟩)) := by
  refine VLe.agg rfl fun j a a' ha ha' => ?_
  match j with
  | 0 => cases ha; cases ha'; exact VLe.refl _
  | 1 => cases ha; cases ha'; exact VLe.empty
  | _ + 2 => cases ha
theorem wr_code (r : Nat) (s : St) (hs : SOk s) : SCall Tryz.prog 172 [.ptr r 0] [(r, .box 149 (rdr s))]
    (fun x σ => x = .agg (encCo (cdN s).1) ∧ σ = [(r, .box 149 (rdr (cdN s).2))]) := by
  have w1 := wr_num r s hs
  have k1 := nu_ok s hs
  have w2 := wr_locals r _ k1
  have k2 := ru_ok _ k1
  have hC : cdN s = if (ruN (nuN s).2).2.2 = true then (⟨(ruN (nuN s).2).1, []⟩, (ruN (nuN s).2).2) else (⟨(ruN (nuN s).2).1, (getC (ruN (nuN s).2).2.1).1⟩, skN (ruN (nuN s).2).2 (getC (ruN (nuN s).2).2.1).2.1 ((getC (ruN (nuN s).2).2.1).2.2 == 0)) := rfl
  generalize ruN (nuN s).2 = p at w2 k2 hC
  obtain ⟨ls, l2, b2⟩ := p
  dsimp only at w2 k2 hC
  have w3 := code_get l2 (by have := k2.1; dsimp only at this; omega) k2.2
  have w4 := fun n ok => wr_skip r (l2, b2) k2 n ok
  generalize getC l2 = g at w3 hC
  obtain ⟨l, n, e⟩ := g
  dsimp only at w3 hC
  have w5 := w4 n (e == 0)
  refine scall_of (n := 34) (ks := [0, 2, 3, 4, 5, 6, 15]) Tryz.func172 rfl rfl (Nat.le_of_ble_eq_true rfl) ?_
  refine sq3 ?_
  apply al; rfl; (exact zcT); refine freshT fun r2 h2 => ?_; repeat rcases h2 with ⟨_, h2⟩
  refine sq27 ?_
  refine cw [(r, .box 149 (rdr s))] Tryz.call96 w1 rfl argsleT stleT ?_
  rintro _ σ' ⟨rfl, rfl⟩ h8
  apply rs_sto; exact nflT
  refine sq27 ?_
  refine cw [(r, .box 149 (rdr (nuN s).2))] Tryz.call223 w2 rfl argsleT stleT ?_
  rintro _ σ' ⟨q, hq, rfl, rfl⟩ h10
  have k10 := rest1T h10; repeat rcases k10 with ⟨_, k10⟩
  apply rs_sto; exact nflT
  refine fzv (j := 10) rfl sdelT (bor_own sgT (by simp)) ?_
  refine z93 ?_
  apply al; rfl; (exact zcT); refine freshT fun r3 h3 => ?_; repeat rcases h3 with ⟨_, h3⟩
  apply stp; rfl; rfl; rfl; rfl; (exact sputT)
  refine sq4 ?_
  unfold rdr
  dsimp only
  refine sq1 ?_
  refine sq38 ?_
  refine sq4 ?_
  refine sw_cond rfl (fun g3 => ?_) (fun g3 => ?_)
  · have hE : cdN s = (⟨ls, []⟩, (l2, true)) := by rw [hC, g3]; rfl
    rw [g3]
    refine sq3 ?_
    refine z99 ?_
    refine rs_go (sgo_vle (j := 16) rfl (vle_co ls)) ?_
    apply stp; rfl; rfl; rfl; rfl; (exact sputT)
    refine sq4 ?_
    apply aend; exact resT
    · exact ⟨by rw [hE]; rfl, by rw [hE]⟩
    · exact stleT
  have hE : cdN s = (⟨ls, l⟩, skN (l2, false) n (e == 0)) := by rw [hC, g3]; rfl
  rw [g3] at w5 ⊢
  refine sq7 ?_
  refine sq38 ?_
  refine cw [] Tryz.call224 w3 rfl argsleT stleT ?_
  rintro _ σ' ⟨q22, rfl, rfl⟩ h22
  replace h22 := cnewT h22; repeat rcases h22 with ⟨_, h22⟩
  apply rs_sto; exact nflT
  refine sq74 ?_
  refine sq23 ?_
  refine sq5 ?_
  refine sq66 ?_
  refine cw [(r, .box 149 (rdr (l2, false)))] Tryz.call94 w5 rfl argsleT stleT ?_
  rintro _ σ' ⟨rfl, rfl⟩ h30
  apply rs_sto; exact nflT
  refine sq27 ?_
  refine fzv (j := 31) rfl sdelT (bor_own sgT (by simp)) ?_
  refine z59 ?_
  apply stp; rfl; rfl; rfl; rfl; (exact sputT)
  refine sq75 ?_
  refine z99 ?_
  apply stp; rfl; rfl; rfl; rfl; (exact sputT)
  refine sq4 ?_
  apply aend; exact resT
  · exact ⟨by rw [hE]; rfl, by rw [hE]⟩
  · exact stleT
/-
  Reading a module's sections.
-/
theorem gets_tb {r c d : Nat} {before : Bool} (hc : Nq r c) (hd : Nq r d) (hcd : Nq c d) : Gets Tryz.prog 220 [] [.ptr c 0, .ptr d 0] (fun s => [(r, .box 149 (rdr s)), (c, .box 4 [.bool before]), (d, .box 146 [.ptr r 0])]) (fun x => .agg (encLi x)) (tbN before) := by
  refine ⟨Tryz.call220, tb_ok before, fun s hs => ?_⟩
  have w1 := wr_byte r s hs
  have w2 := wr_limits r _ (by_ok s hs)
  have w3 := wr_limits r s hs
  refine scall_of (n := 8) (ks := [0, 1, 2, 3]) Tryz.func220 rfl rfl (Nat.le_of_ble_eq_true rfl) ?_
  refine sq3 ?_
  apply al; rfl; (exact zcT); refine freshT fun r2 h2 => ?_; repeat rcases h2 with ⟨_, h2⟩
  refine sq4 ?_
  rcases before with _ | _
  · refine rgT ?_
    refine z60 ?_
    refine sq75 ?_
    refine z60 ?_
    refine cw [(r, .box 149 (rdr s))] Tryz.call221 w3 rfl argsleT stleT ?_
    rintro _ σ' ⟨rfl, rfl⟩ h7
    apply rs_sto; exact nflT
    apply stp; rfl; rfl; rfl; rfl; (exact sputT)
    refine sq4 ?_
    apply aend; exact resT
    · exact ⟨rfl, rfl⟩
    · exact stleT
  · refine rgT ?_
    refine z60 ?_
    refine sq75 ?_
    refine z60 ?_
    refine cw [(r, .box 149 (rdr s))] Tryz.call95 w1 rfl argsleT stleT ?_
    rintro _ σ' ⟨rfl, rfl⟩ h5
    apply rs_sto; exact nflT
    refine sq75 ?_
    refine z60 ?_
    refine cw [(r, .box 149 (rdr (byN s).2))] Tryz.call221 w2 rfl argsleT stleT ?_
    rintro _ σ' ⟨rfl, rfl⟩ h7
    apply rs_sto; exact nflT
    apply stp; rfl; rfl; rfl; rfl; (exact sputT)
    refine sq4 ?_
    apply aend; exact resT
    · exact ⟨rfl, rfl⟩
    · exact stleT
theorem wr_limited (r : Nat) (s : St) (hs : SOk s) (before : Bool) : SCall Tryz.prog 163 [.ptr r 0, .bool before] [(r, .box 149 (rdr s))]
    (fun x σ => x = .agg (encLi (ltN before s).1) ∧ σ = [(r, .box 149 (rdr (ltN before s).2))]) := by
  have w1 := fun (c d : Nat) hc hd hcd => list_li (r := r) (c := c) (d := d) (before := before) hc hd hcd (gets_tb hc hd hcd) s hs
  have hL : ltN before s = ((liN (tbN before) s).1.headD li0, (liN (tbN before) s).2) := rfl
  generalize liN (tbN before) s = p at w1 hL
  obtain ⟨l, s2⟩ := p
  dsimp only at w1 hL
  refine scall_of (n := 16) (ks := [0, 1, 2, 3, 4, 5, 11]) Tryz.func163 rfl rfl (Nat.le_of_ble_eq_true rfl) ?_
  refine sq3 ?_
  apply bx; rfl; rfl; (exact zcT); rfl; refine freshT fun r2 h2 => ?_; repeat rcases h2 with ⟨_, h2⟩
  apply bx; rfl; rfl; (exact zcT); rfl; refine freshT fun r3 h3 => ?_; repeat rcases h3 with ⟨_, h3⟩
  apply al; rfl; (exact zcT); refine freshT fun r4 h4 => ?_; repeat rcases h4 with ⟨_, h4⟩
  refine sq75 ?_
  refine z60 ?_
  refine z150 ?_
  refine cw [(r, .box 149 (rdr s)), (r3, .box 4 [.bool before]), (r2, .box 146 [.ptr r 0])] Tryz.call219 (w1 r3 r2 (by (exact nqT)) (by (exact nqT)) (by (exact nqT))) rfl argsleT stleT ?_
  rintro _ σ' ⟨q8, hq8, rfl, rfl⟩ h8
  simp only [fresh_cons, fresh_nil, and_true] at hq8; repeat rcases hq8 with ⟨_, hq8⟩
  have k8 := rest1T h8; repeat rcases k8 with ⟨_, k8⟩
  apply rs_sto; exact nflT
  refine sq84 ?_
  refine sq34 ?_
  refine sw_cond rfl (fun g2 => ?_) (fun g2 => ?_)
  · obtain rfl : l = [] := by cases l with | nil => rfl | cons x t => (simp at g2 <;> omega)
    have hE : ltN before s = (li0, s2) := hL
    refine sq3 ?_
    refine z93 ?_
    apply stp; rfl; rfl; rfl; rfl; (exact sputT)
    refine sq4 ?_
    apply aend; exact resT
    · exact ⟨by rw [hE]; rfl, by rw [hE]⟩
    · exact stleT
  obtain ⟨x, t, rfl⟩ : ∃ x t, l = x :: t := by cases l with | nil => simp at g2 | cons x t => exact ⟨x, t, rfl⟩
  have hE : ltN before s = (x, s2) := hL
  have hx : (x :: t)[(0 : Int).toNat]? = some x := rfl
  have hpos : 0 < (x :: t).length := Nat.succ_pos _
  refine sq7 ?_
  refine sq59 ?_
  apply stp; rfl; rfl; rfl; rfl; (exact sputT)
  refine sq4 ?_
  apply aend; exact resT
  · exact ⟨by rw [hE]; rfl, by rw [hE]⟩
  · exact stleT
theorem gets_el {r c : Nat} (hc : Nq r c) : Gets Tryz.prog 169 [] [.ptr c 0] (fun s => [(r, .box 149 (rdr s)), (c, .box 146 [.ptr r 0])]) (fun x => .agg (encEl x)) eeN := by
  refine ⟨Tryz.call169, ee_ok, fun s hs => ?_⟩
  have w1 := wr_place r s hs
  have w2 := list_int (gets_num r) _ (pl_ok s hs)
  have hE : eeN s = (⟨(plN s).1, (liN inN (plN s).2).1⟩, (liN inN (plN s).2).2) := rfl
  rw [hE]
  generalize plN s = p at w1 w2
  obtain ⟨o, s2⟩ := p
  dsimp only at w1 w2
  generalize liN inN s2 = p at w2
  obtain ⟨l, s3⟩ := p
  dsimp only at w2
  refine scall_of (n := 9) (ks := [0, 1]) Tryz.func169 rfl rfl (Nat.le_of_ble_eq_true rfl) ?_
  refine sq3 ?_
  apply al; rfl; (exact zcT); refine freshT fun r1 h1 => ?_; repeat rcases h1 with ⟨_, h1⟩
  refine sq4 ?_
  refine rgD [(0, true), (2, true), (3, true), (4, true), (1, false), (5, false), (6, true), (7, false)] ?_
  refine z74 ?_
  refine z74 ?_
  refine z74 ?_
  refine z151 ?_
  refine dcw [(r, .box 149 (rdr s))] rfl Tryz.call170 w1 rfl argsleT stleT hbtT ?_
  rintro _ σ' ⟨rfl, rfl⟩ h3
  apply rd_sto; exact nflT
  refine dcw [(r, .box 149 (rdr s2))] rfl Tryz.call162 w2 rfl argsleT stleT hbtT ?_
  rintro _ σ' ⟨q7, hq7, rfl, rfl⟩ h7
  simp only [fresh_cons, fresh_nil, and_true] at hq7
  have k7 := rest1T h7; repeat rcases k7 with ⟨_, k7⟩
  apply rd_sto; exact nflT
  refine z94 ?_
  refine z95 ?_
  refine deT ?_
  refine an ?_
  refine sw_go (sgo_fzb (r := r1) (q := q7) ssetT sdelT (.cons (.refl _) (.cons (bor_own sgT (by simp)) .nil))) ?_
  refine ctlT ?_
  apply aend; exact resT
  · exact ⟨rfl, rfl⟩
  · exact stleT
theorem gets_da {r c : Nat} (hc : Nq r c) : Gets Tryz.prog 174 [] [.ptr c 0] (fun s => [(r, .box 149 (rdr s)), (c, .box 146 [.ptr r 0])]) (fun x => .agg (encDa x)) ddN := by
  refine ⟨Tryz.call174, dd_ok, fun s hs => ?_⟩
  have w1 := wr_place r s hs
  have w2 := wr_row r _ (pl_ok s hs)
  have hE : ddN s = (⟨(plN s).1, (roN (plN s).2).1⟩, (roN (plN s).2).2) := rfl
  rw [hE]
  generalize plN s = p at w1 w2
  obtain ⟨o, s2⟩ := p
  dsimp only at w1 w2
  generalize roN s2 = p at w2
  obtain ⟨l, s3⟩ := p
  dsimp only at w2
  refine scall_of (n := 7) (ks := [0, 1]) Tryz.func174 rfl rfl (Nat.le_of_ble_eq_true rfl) ?_
  refine sq3 ?_
  apply al; rfl; (exact zcT); refine freshT fun r1 h1 => ?_; repeat rcases h1 with ⟨_, h1⟩
  refine sq4 ?_
  refine rgD [(0, true), (2, true), (1, false), (3, false), (4, true), (5, false)] ?_
  refine z74 ?_
  refine z74 ?_
  refine dcw [(r, .box 149 (rdr s))] rfl Tryz.call170 w1 rfl argsleT stleT hbtT ?_
  rintro _ σ' ⟨rfl, rfl⟩ h3
  apply rd_sto; exact nflT
  refine dcw [(r, .box 149 (rdr s2))] rfl Tryz.call175 w2 rfl argsleT stleT hbtT ?_
  rintro _ σ' ⟨q5, hq5, rfl, rfl⟩ h5
  have k5 := rest1T h5; repeat rcases k5 with ⟨_, k5⟩
  apply rd_sto; exact nflT
  refine z94 ?_
  refine z95 ?_
  refine deT ?_
  refine an ?_
  refine sw_go (sgo_fzb (r := r1) (q := q5) ssetT sdelT (.cons (.refl _) (.cons (bor_own sgT (by simp)) .nil))) ?_
  refine ctlT ?_
  apply aend; exact resT
  · exact ⟨rfl, rfl⟩
  · exact stleT
theorem gets_ft (r : Nat) : Gets Tryz.prog 159 [.ptr r 0] [] (fun s => [(r, .box 149 (rdr s))]) (fun x => .agg (encFT x)) tyN := ⟨Tryz.call159, ty_ok, fun s hs => wr_type r s hs⟩
theorem gets_im (r : Nat) : Gets Tryz.prog 161 [.ptr r 0] [] (fun s => [(r, .box 149 (rdr s))]) (fun x => .agg (encIm x)) imN := ⟨Tryz.call161, im_ok, fun s hs => wr_import r s hs⟩
theorem gets_gl (r : Nat) : Gets Tryz.prog 165 [.ptr r 0] [] (fun s => [(r, .box 149 (rdr s))]) (fun x => .agg (encGl x)) glN := ⟨Tryz.call165, gl_ok, fun s hs => wr_global r s hs⟩
theorem gets_ex (r : Nat) : Gets Tryz.prog 167 [.ptr r 0] [] (fun s => [(r, .box 149 (rdr s))]) (fun x => .agg (encEx x)) exN := ⟨Tryz.call167, ex_ok, fun s hs => wr_export r s hs⟩
theorem gets_co (r : Nat) : Gets Tryz.prog 172 [.ptr r 0] [] (fun s => [(r, .box 149 (rdr s))]) (fun x => .agg (encCo x)) cdN := ⟨Tryz.call172, cd_ok, fun s hs => wr_code r s hs⟩
theorem wr_section (r m : Nat) (hrm : Nq r m) (s : St) (hs : SOk s) (M : Md) (no : Nat) : SCall Tryz.prog 97 [.ptr r 0, .ptr m 0, .int .i64 no] [(r, .box 149 (rdr s)), (m, .box 33 (encMd M))]
    (fun x σ => x = .tup [] ∧ σ = [(r, .box 149 (rdr (seN no M s).2)), (m, .box 33 (encMd (seN no M s).1))]) := by
  obtain ⟨ty, im, fn, tb, me, gl, ex, el, co, da⟩ := M
  refine scall_of (n := 94) (ks := [0, 1, 2, 3, 6, 10, 19, 28, 37, 44, 51, 60, 69, 77, 86]) Tryz.func97 rfl rfl (Nat.le_of_ble_eq_true rfl) ?_
  unfold encMd
  dsimp only
  refine sq3 ?_
  apply bx; rfl; rfl; (exact zcT); rfl; refine freshT fun r3 h3 => ?_; repeat rcases h3 with ⟨_, h3⟩
  refine sq27 ?_
  refine leT ?_
  refine sq24 ?_
  refine sw_cond rfl (fun g3 => ?_) (fun g3 => ?_)
  · obtain rfl : no = 1 := by simp at g3; omega
    have hE : seN 1 ⟨ty, im, fn, tb, me, gl, ex, el, co, da⟩ s = (⟨(liN tyN s).1, im, fn, tb, me, gl, ex, el, co, da⟩, (liN tyN s).2) := rfl
    refine sq7 ?_
    refine z60 ?_
    refine z60 ?_
    refine z149 ?_
    refine cw [(r, .box 149 (rdr s))] Tryz.call158 (list_ft (gets_ft r) s hs) rfl argsleT stleT ?_
    rintro _ σ' ⟨q16, hq16, rfl, rfl⟩ h16
    simp only [fresh_cons, fresh_nil, and_true] at hq16
    have k16 := rest1T h16; repeat rcases k16 with ⟨_, k16⟩
    apply rs_sto; exact nflT
    refine fzv (j := 16) rfl sdelT (bor_own sgT (by simp)) ?_
    refine sq39 ?_
    apply stp; rfl; rfl; rfl; rfl; (exact sputT)
    refine sq4 ?_
    refine aend_n ?_
    apply aend; exact resT
    · exact ⟨rfl, by rw [hE]⟩
    · exact stleT
  refine sq24 ?_
  refine sw_cond rfl (fun g5 => ?_) (fun g5 => ?_)
  · obtain rfl : no = 2 := by simp at g5; omega
    have hE : seN 2 ⟨ty, im, fn, tb, me, gl, ex, el, co, da⟩ s = (⟨ty, (liN imN s).1, fn, tb, me, gl, ex, el, co, da⟩, (liN imN s).2) := rfl
    refine sq7 ?_
    refine z60 ?_
    refine z60 ?_
    refine z149 ?_
    refine cw [(r, .box 149 (rdr s))] Tryz.call160 (list_im (gets_im r) s hs) rfl argsleT stleT ?_
    rintro _ σ' ⟨q25, hq25, rfl, rfl⟩ h25
    simp only [fresh_cons, fresh_nil, and_true] at hq25
    have k25 := rest1T h25; repeat rcases k25 with ⟨_, k25⟩
    apply rs_sto; exact nflT
    refine fzv (j := 25) rfl sdelT (bor_own sgT (by simp)) ?_
    refine sq39 ?_
    apply stp; rfl; rfl; rfl; rfl; (exact sputT)
    refine sq4 ?_
    refine aend_n ?_
    apply aend; exact resT
    · exact ⟨rfl, by rw [hE]⟩
    · exact stleT
  refine sq24 ?_
  refine sw_cond rfl (fun g7 => ?_) (fun g7 => ?_)
  · obtain rfl : no = 3 := by simp at g7; omega
    have hE : seN 3 ⟨ty, im, fn, tb, me, gl, ex, el, co, da⟩ s = (⟨ty, im, (liN inN s).1, tb, me, gl, ex, el, co, da⟩, (liN inN s).2) := rfl
    refine sq7 ?_
    refine z60 ?_
    refine z60 ?_
    refine z149 ?_
    refine cw [(r, .box 149 (rdr s))] Tryz.call162 (list_int (gets_num r) s hs) rfl argsleT stleT ?_
    rintro _ σ' ⟨q34, hq34, rfl, rfl⟩ h34
    simp only [fresh_cons, fresh_nil, and_true] at hq34
    have k34 := rest1T h34; repeat rcases k34 with ⟨_, k34⟩
    apply rs_sto; exact nflT
    refine fzv (j := 34) rfl sdelT (bor_own sgT (by simp)) ?_
    refine sq39 ?_
    apply stp; rfl; rfl; rfl; rfl; (exact sputT)
    refine sq4 ?_
    refine aend_n ?_
    apply aend; exact resT
    · exact ⟨rfl, by rw [hE]⟩
    · exact stleT
  refine sq24 ?_
  refine sw_cond rfl (fun g9 => ?_) (fun g9 => ?_)
  · obtain rfl : no = 4 := by simp at g9; omega
    have hE : seN 4 ⟨ty, im, fn, tb, me, gl, ex, el, co, da⟩ s = (⟨ty, im, fn, (ltN true s).1, me, gl, ex, el, co, da⟩, (ltN true s).2) := rfl
    refine sq7 ?_
    refine z60 ?_
    refine cw [(r, .box 149 (rdr s))] Tryz.call163 (wr_limited r s hs true) rfl argsleT stleT ?_
    rintro _ σ' ⟨rfl, rfl⟩ h41
    apply rs_sto; exact nflT
    refine sq39 ?_
    apply stp; rfl; rfl; rfl; rfl; (exact sputT)
    refine sq4 ?_
    refine aend_n ?_
    apply aend; exact resT
    · exact ⟨rfl, by rw [hE]⟩
    · exact stleT
  refine sq24 ?_
  refine sw_cond rfl (fun g11 => ?_) (fun g11 => ?_)
  · obtain rfl : no = 5 := by simp at g11; omega
    have hE : seN 5 ⟨ty, im, fn, tb, me, gl, ex, el, co, da⟩ s = (⟨ty, im, fn, tb, (ltN false s).1, gl, ex, el, co, da⟩, (ltN false s).2) := rfl
    refine sq7 ?_
    refine z60 ?_
    refine cw [(r, .box 149 (rdr s))] Tryz.call163 (wr_limited r s hs false) rfl argsleT stleT ?_
    rintro _ σ' ⟨rfl, rfl⟩ h48
    apply rs_sto; exact nflT
    refine sq39 ?_
    apply stp; rfl; rfl; rfl; rfl; (exact sputT)
    refine sq4 ?_
    refine aend_n ?_
    apply aend; exact resT
    · exact ⟨rfl, by rw [hE]⟩
    · exact stleT
  refine sq24 ?_
  refine sw_cond rfl (fun g13 => ?_) (fun g13 => ?_)
  · obtain rfl : no = 6 := by simp at g13; omega
    have hE : seN 6 ⟨ty, im, fn, tb, me, gl, ex, el, co, da⟩ s = (⟨ty, im, fn, tb, me, (liN glN s).1, ex, el, co, da⟩, (liN glN s).2) := rfl
    refine sq7 ?_
    refine z60 ?_
    refine z60 ?_
    refine z149 ?_
    refine cw [(r, .box 149 (rdr s))] Tryz.call164 (list_gl (gets_gl r) s hs) rfl argsleT stleT ?_
    rintro _ σ' ⟨q57, hq57, rfl, rfl⟩ h57
    simp only [fresh_cons, fresh_nil, and_true] at hq57
    have k57 := rest1T h57; repeat rcases k57 with ⟨_, k57⟩
    apply rs_sto; exact nflT
    refine fzv (j := 57) rfl sdelT (bor_own sgT (by simp)) ?_
    refine sq39 ?_
    apply stp; rfl; rfl; rfl; rfl; (exact sputT)
    refine sq4 ?_
    refine aend_n ?_
    apply aend; exact resT
    · exact ⟨rfl, by rw [hE]⟩
    · exact stleT
  refine sq24 ?_
  refine sw_cond rfl (fun g15 => ?_) (fun g15 => ?_)
  · obtain rfl : no = 7 := by simp at g15; omega
    have hE : seN 7 ⟨ty, im, fn, tb, me, gl, ex, el, co, da⟩ s = (⟨ty, im, fn, tb, me, gl, (liN exN s).1, el, co, da⟩, (liN exN s).2) := rfl
    refine sq7 ?_
    refine z60 ?_
    refine z60 ?_
    refine z149 ?_
    refine cw [(r, .box 149 (rdr s))] Tryz.call166 (list_ex (gets_ex r) s hs) rfl argsleT stleT ?_
    rintro _ σ' ⟨q66, hq66, rfl, rfl⟩ h66
    simp only [fresh_cons, fresh_nil, and_true] at hq66
    have k66 := rest1T h66; repeat rcases k66 with ⟨_, k66⟩
    apply rs_sto; exact nflT
    refine fzv (j := 66) rfl sdelT (bor_own sgT (by simp)) ?_
    refine sq39 ?_
    apply stp; rfl; rfl; rfl; rfl; (exact sputT)
    refine sq4 ?_
    refine aend_n ?_
    apply aend; exact resT
    · exact ⟨rfl, by rw [hE]⟩
    · exact stleT
  refine sq24 ?_
  refine sw_cond rfl (fun g17 => ?_) (fun g17 => ?_)
  · obtain rfl : no = 9 := by simp at g17; omega
    have hE : seN 9 ⟨ty, im, fn, tb, me, gl, ex, el, co, da⟩ s = (⟨ty, im, fn, tb, me, gl, ex, (liN eeN s).1, co, da⟩, (liN eeN s).2) := rfl
    refine sq7 ?_
    refine z60 ?_
    refine z152 ?_
    refine cw [(r, .box 149 (rdr s)), (r3, .box 146 [.ptr r 0])] Tryz.call168 (list_el (r := r) (c := r3) (by (exact nqT)) (gets_el (by (exact nqT))) s hs) rfl argsleT stleT ?_
    rintro _ σ' ⟨q74, hq74, rfl, rfl⟩ h74
    simp only [fresh_cons, fresh_nil, and_true] at hq74; repeat rcases hq74 with ⟨_, hq74⟩
    have k74 := rest1T h74; repeat rcases k74 with ⟨_, k74⟩
    apply rs_sto; exact nflT
    refine fzv (j := 74) rfl sdelT (bor_own sgT (by simp)) ?_
    refine sq39 ?_
    apply stp; rfl; rfl; rfl; rfl; (exact sputT)
    refine sq4 ?_
    refine aend_n ?_
    apply aend; exact resT
    · exact ⟨rfl, by rw [hE]⟩
    · exact stleT
  refine sq24 ?_
  refine sw_cond rfl (fun g19 => ?_) (fun g19 => ?_)
  · obtain rfl : no = 10 := by simp at g19; omega
    have hE : seN 10 ⟨ty, im, fn, tb, me, gl, ex, el, co, da⟩ s = (⟨ty, im, fn, tb, me, gl, ex, el, (liN cdN s).1, da⟩, (liN cdN s).2) := rfl
    refine sq7 ?_
    refine z60 ?_
    refine z60 ?_
    refine z149 ?_
    refine cw [(r, .box 149 (rdr s))] Tryz.call171 (list_co (gets_co r) s hs) rfl argsleT stleT ?_
    rintro _ σ' ⟨q83, hq83, rfl, rfl⟩ h83
    simp only [fresh_cons, fresh_nil, and_true] at hq83
    have k83 := rest1T h83; repeat rcases k83 with ⟨_, k83⟩
    apply rs_sto; exact nflT
    refine fzv (j := 83) rfl sdelT (bor_own sgT (by simp)) ?_
    refine sq39 ?_
    apply stp; rfl; rfl; rfl; rfl; (exact sputT)
    refine sq4 ?_
    refine aend_n ?_
    apply aend; exact resT
    · exact ⟨rfl, by rw [hE]⟩
    · exact stleT
  refine sq24 ?_
  refine sw_cond rfl (fun g21 => ?_) (fun g21 => ?_)
  · obtain rfl : no = 11 := by simp at g21; omega
    have hE : seN 11 ⟨ty, im, fn, tb, me, gl, ex, el, co, da⟩ s = (⟨ty, im, fn, tb, me, gl, ex, el, co, (liN ddN s).1⟩, (liN ddN s).2) := rfl
    refine sq7 ?_
    refine z60 ?_
    refine z152 ?_
    refine cw [(r, .box 149 (rdr s)), (r3, .box 146 [.ptr r 0])] Tryz.call173 (list_da (r := r) (c := r3) (by (exact nqT)) (gets_da (by (exact nqT))) s hs) rfl argsleT stleT ?_
    rintro _ σ' ⟨q91, hq91, rfl, rfl⟩ h91
    simp only [fresh_cons, fresh_nil, and_true] at hq91; repeat rcases hq91 with ⟨_, hq91⟩
    have k91 := rest1T h91; repeat rcases k91 with ⟨_, k91⟩
    apply rs_sto; exact nflT
    refine fzv (j := 91) rfl sdelT (bor_own sgT (by simp)) ?_
    refine sq39 ?_
    apply stp; rfl; rfl; rfl; rfl; (exact sputT)
    refine sq4 ?_
    refine aend_n ?_
    apply aend; exact resT
    · exact ⟨rfl, by rw [hE]⟩
    · exact stleT
  have e1 : no ≠ 1 := by (simp at g3; omega)
  have e2 : no ≠ 2 := by (simp at g5; omega)
  have e3 : no ≠ 3 := by (simp at g7; omega)
  have e4 : no ≠ 4 := by (simp at g9; omega)
  have e5 : no ≠ 5 := by (simp at g11; omega)
  have e6 : no ≠ 6 := by (simp at g13; omega)
  have e7 : no ≠ 7 := by (simp at g15; omega)
  have e9 : no ≠ 9 := by (simp at g17; omega)
  have e10 : no ≠ 10 := by (simp at g19; omega)
  have e11 : no ≠ 11 := by (simp at g21; omega)
  have hE : seN no ⟨ty, im, fn, tb, me, gl, ex, el, co, da⟩ s = (⟨ty, im, fn, tb, me, gl, ex, el, co, da⟩, (s.1, true)) := by unfold seN; rw [if_neg e1]; rw [if_neg e2]; rw [if_neg e3]; rw [if_neg e4]; rw [if_neg e5]; rw [if_neg e6]; rw [if_neg e7]; rw [if_neg e9]; rw [if_neg e10]; rw [if_neg e11]
  refine sq3 ?_
  refine z60 ?_
  refine sq39 ?_
  apply stp; rfl; rfl; rfl; rfl; (exact sputT)
  refine sq4 ?_
  refine aend_n ?_
  apply aend; exact resT
  · exact ⟨rfl, by rw [hE]⟩
  · exact stleT
/-
  A module is read: what the parts that were read are like.
-/
theorem ro_str {s : St} (h : SOk s) : StrOk (roN s).1 := by
  have h1 := nu_ok s h
  unfold roN
  dsimp only
  split
  · exact ⟨by simp, by simp⟩
  · exact ⟨by have := h1.1; simp; omega, fun c hc => h1.2 c (List.mem_of_mem_take hc)⟩
theorem ls_all {α : Type} {get : St → α × St} {p : α → Prop} (hk : Kp get) (hp : ∀ s, SOk s → p (get s).1) : ∀ n s, SOk s → (∀ x ∈ (lsN get n s).1, p x) ∧ (lsN get n s).1.length ≤ n
  | 0, s, h => ⟨by simp [lsN], by simp [lsN]⟩
  | n + 1, s, h => by
    rw [lsN]
    split
    · exact ⟨by simp, by simp⟩
    · obtain ⟨h1, h2⟩ := ls_all hk hp n _ (hk s h)
      refine ⟨fun x hx => ?_, by simpa using h2⟩
      rcases List.mem_cons.1 hx with rfl | hx
      · exact hp s h
      · exact h1 x hx
theorem li_all {α : Type} {get : St → α × St} {p : α → Prop} (hk : Kp get) (hp : ∀ s, SOk s → p (get s).1) {s : St} (h : SOk s) : (∀ x ∈ (liN get s).1, p x) ∧ (liN get s).1.length ≤ 4294967296 := by
  obtain ⟨h1, h2⟩ := ls_all hk hp (nuN s).1 _ (nu_ok s h)
  exact ⟨h1, Nat.le_trans h2 (Nat.le_of_lt (nu_bd s))⟩
theorem ins0_ok : ins0.Ok := ⟨by decide, by decide, by decide, by decide, by decide⟩
theorem getP_okA {l : List Nat} (hlt : ∀ x ∈ l, x < 256) : (getP l).1.Ok := by
  by_cases h : (getP l).2.2 = 0
  · exact (getP_sound hlt h).1
  · have hf : ∀ x n e, (fin x n e).2.2 ≠ 0 → (fin x n e).1 = ins0 := fun x n e h => by
      unfold fin at h ⊢
      split
      · rfl
      · next hh => rw [if_neg hh] at h; exact absurd rfl h
    have : (getP l).1 = ins0 := by
      unfold getP at h ⊢
      split
      · rfl
      · next h1 =>
        rw [if_neg h1] at h
        split
        · rfl
        · next h2 =>
          rw [if_neg h2] at h
          unfold getT at h ⊢
          dsimp only at h ⊢
          repeat' split
          all_goals (first | rfl | skip)
          all_goals apply hf
          all_goals simp_all
    rw [this]
    exact ins0_ok
theorem co_vals {s : St} (h : SOk s) : -9223372036854775808 ≤ (coN s).1.2 ∧ (coN s).1.2 ≤ 9223372036854775807 := by
  have h1 := getP_okA h.2
  unfold coN
  dsimp only
  split
  · exact ⟨h1.2.2.1, h1.2.2.2.1⟩
  · exact ⟨h1.2.2.1, h1.2.2.2.1⟩
theorem cd_vals {s : St} (h : SOk s) : (cdN s).1.bd.length ≤ 100000 ∧ ∀ x ∈ (cdN s).1.bd, x.Ok := by
  have k1 := ru_ok _ (nu_ok s h)
  have hC : cdN s = if (ruN (nuN s).2).2.2 = true then (⟨(ruN (nuN s).2).1, []⟩, (ruN (nuN s).2).2) else (⟨(ruN (nuN s).2).1, (getC (ruN (nuN s).2).2.1).1⟩, skN (ruN (nuN s).2).2 (getC (ruN (nuN s).2).2.1).2.1 ((getC (ruN (nuN s).2).2.1).2.2 == 0)) := rfl
  rw [hC]
  split
  · exact ⟨by simp, by simp⟩
  · have k2 := k1.2
    generalize (ruN (nuN s).2).2.1 = l at k2 ⊢
    by_cases he : (getC l).2.2 = 0
    · obtain ⟨h1, h2, h3⟩ := getC_sound k2 he
      refine ⟨?_, fun x hx => (h3 x hx).1⟩
      have := okN_len h1
      simp only [opsOf, List.length_map] at this
      dsimp only
      omega
    · rw [(getC_err l he).1]
      exact ⟨by simp, by simp⟩
theorem se_wo (no : Nat) {m : Md} (h : m.WO) {s : St} (hs : SOk s) : (seN no m s).1.WO := by
  obtain ⟨⟨h1, h2, h3, h4, h7⟩, h5, h6⟩ := h
  unfold seN
  split
  · exact ⟨⟨h1, h2, h3, h4, h7⟩, h5, h6⟩
  split
  · have := li_all (p := fun x : Im => StrOk x.mod ∧ StrOk x.nm) im_ok (fun s hs => ⟨ro_str hs, ro_str (ro_ok s hs)⟩) hs
    exact ⟨⟨this.1, h2, h3, this.2, h7⟩, h5, h6⟩
  split
  · exact ⟨⟨h1, h2, h3, h4, h7⟩, h5, h6⟩
  split
  · exact ⟨⟨h1, h2, h3, h4, h7⟩, h5, h6⟩
  split
  · exact ⟨⟨h1, h2, h3, h4, h7⟩, h5, h6⟩
  split
  · have := li_all (p := fun g : Gl => -9223372036854775808 ≤ g.n ∧ g.n ≤ 9223372036854775807) gl_ok (fun s hs => co_vals (by_ok _ (ki_ok s hs))) hs
    exact ⟨⟨h1, h2, h3, h4, h7⟩, h5, this.1⟩
  split
  · have := li_all (p := fun x : Ex => StrOk x.nm) ex_ok (fun s hs => ro_str hs) hs
    exact ⟨⟨h1, this.1, h3, h4, h7⟩, h5, h6⟩
  split
  · exact ⟨⟨h1, h2, h3, h4, h7⟩, h5, h6⟩
  split
  · have := li_all (p := fun c : Co => c.bd.length ≤ 100000 ∧ ∀ x ∈ c.bd, x.Ok) cd_ok (fun s hs => cd_vals hs) hs
    exact ⟨⟨h1, h2, fun c hc => (this.1 c hc).1, h4, h7⟩, fun c hc => (this.1 c hc).2, h6⟩
  split
  · have := li_all (p := fun x : Da => ∀ c ∈ x.bs, c < 256) dd_ok (fun s hs => (ro_str (pl_ok s hs)).2) hs
    exact ⟨⟨h1, h2, h3, h4, this.1⟩, h5, h6⟩
  · exact ⟨⟨h1, h2, h3, h4, h7⟩, h5, h6⟩
theorem se_ok (no : Nat) (m : Md) {s : St} (hs : SOk s) : SOk (seN no m s).2 := by
  unfold seN
  split
  · exact li_ok ty_ok s hs
  split
  · exact li_ok im_ok s hs
  split
  · exact li_ok in_ok s hs
  split
  · exact lt_ok true s hs
  split
  · exact lt_ok false s hs
  split
  · exact li_ok gl_ok s hs
  split
  · exact li_ok ex_ok s hs
  split
  · exact li_ok ee_ok s hs
  split
  · exact li_ok cd_ok s hs
  split
  · exact li_ok dd_ok s hs
  · exact hs
theorem wo0 : md0.WO := ⟨⟨by simp [md0], by simp [md0], by simp [md0], by simp [md0], by simp [md0]⟩, by simp [md0], by simp [md0]⟩
/-! ### section by section -/
theorem dn_stop {m : Md} {s : St} (h : (s.1.isEmpty || s.2) = true) : DN m s = (m, s) := by
  unfold DN
  rw [dlN, if_pos h]
theorem dn_step {m : Md} {s : St} (h : s.1 ≠ []) (hb : s.2 = false) : DN m s = DN (seN (byN s).1 m (nuN (byN s).2).2).1 (seN (byN s).1 m (nuN (byN s).2).2).2 ∧ (seN (byN s).1 m (nuN (byN s).2).2).2.1.length < s.1.length := by
  have h1 : (seN (byN s).1 m (nuN (byN s).2).2).2.1.length < s.1.length := Nat.lt_of_le_of_lt (se_ni _ _ _) (Nat.lt_of_le_of_lt (nu_ni _) (by_lt s h hb))
  refine ⟨?_, h1⟩
  unfold DN
  rw [dlN, if_neg (by rw [hb]; simp [h])]
  exact dl_fuel _ _ _ _ h1 (Nat.lt_succ_self _)
theorem prs_dn (b : List Nat) : prsN b = DN md0 (skN (b, !decide (b.take 8 = headB)) 8 true) := by
  unfold prsN DN
  refine dl_fuel _ _ _ _ ?_ (Nat.lt_succ_self _)
  exact Nat.lt_succ_of_le (sk_ni _ _ _)
/-! ### strings -/
theorem lib_hasPrefixL (bs ps : List Nat) (h1 : bs.length ≤ 1000000) (h2 : ps.length ≤ 1000000) (l1 : ∀ c ∈ bs, c < 256) (l2 : ∀ c ∈ ps, c < 256) : SCall Tryz.prog 156 [.str (strU bs), .str (strU ps)] [] (fun x σ => x = .bool (decide (bs.take ps.length = ps)) ∧ σ = []) := by
  have hq : ((strU ((bs.drop 0).take (ps.length - 0))).toList == (strU ps).toList) = decide (bs.take ps.length = ps) := by
    rw [List.drop_zero, Nat.sub_zero]
    exact strU_inj (fun c hc => l1 c (List.mem_of_mem_take hc)) l2
  refine scall_of (n := 18) (ks := [0, 1, 4]) Tryz.func156 rfl rfl (Nat.le_of_ble_eq_true rfl) ?_
  refine sq8 ?_
  by_cases hl : ps.length ≤ bs.length
  · have hE : AV.bool (decide (bs.take ps.length = ps)) = AV.bool (decide (bs.take ps.length = ps)) := rfl
    refine sq1 ?_
    refine lo (lop_len_str (E rfl)) rfl ?_
    refine lo (lop_move (E rfl)) rfl ?_
    refine lo (lop_len_str (E rfl)) rfl ?_
    rw [strU_size, strU_size]
    refine lo (lop_geq (E rfl) (E rfl)) rfl ?_
    rw [decide_eq_true (show (ps.length : Int) ≤ bs.length by omega)]
    refine sq10 ?_
    refine z109 ?_
    refine z153 ?_
    rw [strU_size]
    refine z154 ?_
    refine z109 ?_
    refine z155 ?_
    rw [hq]
    refine sq31 ?_
    apply aend; exact resT
    · exact ⟨by rw [hE]; rfl, rfl⟩
    · exact stleT
  · have hE : decide (bs.take ps.length = ps) = false := decide_eq_false fun e => by have := congrArg List.length e; simp at this; omega
    refine sq1 ?_
    refine lo (lop_len_str (E rfl)) rfl ?_
    refine lo (lop_move (E rfl)) rfl ?_
    refine lo (lop_len_str (E rfl)) rfl ?_
    rw [strU_size, strU_size]
    refine lo (lop_geq (E rfl) (E rfl)) rfl ?_
    rw [decide_eq_false (show ¬ (ps.length : Int) ≤ bs.length by omega)]
    refine sq10 ?_
    refine z109 ?_
    refine z153 ?_
    refine z154 ?_
    refine z109 ?_
    refine z155 ?_
    refine sq31 ?_
    apply aend; exact resT
    · exact ⟨by rw [hE]; rfl, rfl⟩
    · exact stleT
theorem lib_hasPrefix (bs ps : List Nat) (h1 : bs.length ≤ 1000000) (h2 : ps.length ≤ 1000000) (l1 : ∀ c ∈ bs, c < 256) (l2 : ∀ c ∈ ps, c < 256) : SCall Tryz.prog 93 [.str (strU bs), .str (strU ps)] [] (fun x σ => x = .bool (decide (bs.take ps.length = ps)) ∧ σ = []) := by
  refine scall_of (n := 8) (ks := [0, 1, 4]) Tryz.func93 rfl rfl (Nat.le_of_ble_eq_true rfl) ?_
  refine sq52 ?_
  refine puA Tryz.call156 (lib_hasPrefixL bs ps h1 h2 l1 l2) rfl pargsT nofT ?_
  refine sq2 ?_
  apply aend; exact resT
  · exact ⟨rfl, rfl⟩
  · exact stleT
theorem lib_bytesEqual {k k2 : Rk} (a c : List Nat) (l1 : ∀ x ∈ a, x < 256) (l2 : ∀ x ∈ c, x < 256) : SCall Tryz.prog 98 [.ro 1 (a.map encU) k, .ro 1 (c.map encU) k2] [] (fun x σ => x = .bool (decide (a = c)) ∧ σ = []) := by
  refine scall_of (n := 10) (ks := [0, 1, 4]) Tryz.func98 rfl rfl (Nat.le_of_ble_eq_true rfl) ?_
  refine sq62 ?_
  refine z145 ?_
  refine lo (lop_move (E rfl)) rfl ?_
  refine z145 ?_
  refine lo (lop_seql (E rfl) (E rfl)) rfl ?_
  refine sq2 ?_
  apply aend; exact resT
  · exact ⟨by rw [← strU_inj l1 l2]; rfl, rfl⟩
  · exact stleT
end Go.Proofs.YthhlimmcncbopaaGreat
