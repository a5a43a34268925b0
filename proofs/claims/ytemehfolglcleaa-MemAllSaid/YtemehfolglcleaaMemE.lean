/-
  Package mem: what is stored is loaded; the laws' first memory.
-/
import Derived.Test.YtemehfolglcleaaMemD
namespace Go.Proofs.Ytemehfolglcleaa
open Go.RowKit Go.ChangeShapes Go.WideShapes Go.ChangeAt Go.Deep
set_option linter.unusedSimpArgs false
set_option linter.unusedVariables false
attribute [local irreducible] SW RS RD AThen ABlock

theorem stN_at (b : List Nat) (a x : Nat) : ∀ n, a + n ≤ b.length → ∀ j, (stN b a x n)[j]! = if a ≤ j ∧ j < a + n then x / 256 ^ (j - a) % 256 else b[j]!
  | 0, _, j => by rw [stN, if_neg (by omega)]
  | n + 1, h, j => by
    have ih := stN_at b a x n (by omega) j
    have hl := stN_len b a x n
    rw [stN]
    by_cases hj : j = a + n
    · subst hj
      rw [if_pos (by omega), show a + n - a = n by omega]
      simp [List.getElem!_eq_getElem?_getD, hl]
      rw [List.getElem?_set_self (by omega)]
      rfl
    · have : ((stN b a x n).set (a + n) (x / 256 ^ n % 256))[j]! = (stN b a x n)[j]! := by
        simp only [List.getElem!_eq_getElem?_getD]
        rw [List.getElem?_set_ne (fun e => hj e.symm)]
      rw [this, ih]
      by_cases h2 : a ≤ j ∧ j < a + n
      · rw [if_pos h2, if_pos (by omega)]
      · rw [if_neg h2, if_neg (by omega)]
theorem ldN_congr {b c : List Nat} : ∀ (n a : Nat), (∀ j, a ≤ j → j < a + n → b[j]! = c[j]!) → ldN b a n = ldN c a n
  | 0, _, _ => rfl
  | n + 1, a, h => by
    rw [ldN, ldN, h a (Nat.le_refl _) (by omega), ldN_congr n (a + 1) fun j h1 h2 => h j (by omega) (by omega)]
/-- what stands byte by byte is one number -/
theorem ldN_bytes {b : List Nat} : ∀ (n a x : Nat), (∀ j, j < n → b[a + j]! = x / 256 ^ j % 256) → ldN b a n = x % 256 ^ n
  | 0, _, x, _ => by simp [ldN, Nat.mod_one]
  | n + 1, a, x, h => by
    have ih := ldN_bytes n (a + 1) (x / 256) fun j hj => by
      have := h (j + 1) (by omega)
      rw [show a + 1 + j = a + (j + 1) by omega, this, Nat.pow_succ', Nat.div_div_eq_div_mul]
    rw [ldN, ih]
    have h0 := h 0 (by omega)
    rw [Nat.add_zero, Nat.pow_zero, Nat.div_one] at h0
    rw [h0, Nat.pow_succ', Nat.mod_mul]
theorem ld_st {b : List Nat} {a n x : Nat} (h : a + n ≤ b.length) : ldN (stN b a x n) a n = x % 256 ^ n :=
  ldN_bytes n a x fun j hj => by rw [stN_at b a x n h, if_pos (by omega), show a + j - a = j by omega]
/-- the lower part of what was stored, from some byte on -/
theorem ld_part {b : List Nat} {a n x i k : Nat} (h : a + n ≤ b.length) (hi : i + k ≤ n) : ldN (stN b a x n) (a + i) k = x / 256 ^ i % 256 ^ k :=
  ldN_bytes k (a + i) (x / 256 ^ i) fun j hj => by
    rw [stN_at b a x n h, if_pos (by omega), show a + i + j - a = i + j by omega, Nat.pow_add, Nat.div_div_eq_div_mul]
theorem rep_lt {k : Nat} : ∀ x ∈ List.replicate k 0, x < 256 := fun x hx => by rw [List.eq_of_mem_replicate hx]; decide
theorem app_lt {l m : List Nat} (h : ∀ x ∈ l, x < 256) (h' : ∀ x ∈ m, x < 256) : ∀ x ∈ l ++ m, x < 256 := fun x hx => (List.mem_append.1 hx).elim (h x) (h' x)
theorem ldV_yes {b : List Nat} {a n : Nat} (h : hasB b a n = true) : ldV b a n = .tup [.int .u64 (ldN b a n), .bool true] := by simp [ldV, h]
theorem ldV_no {b : List Nat} {a n : Int} (h : hasB b a n = false) : ldV b a n = .tup [.int .u64 0, .bool false] := by simp [ldV, h]
theorem mem_load_yes (b : List Nat) (mo : Int) (dl : List Int) (hb : b.length ≤ 1000000) (hbb : ∀ x ∈ b, x < 256) (a n : Nat) (h : hasB b a n = true) : SCall Try.prog 14 [.el 3 [[.ro 1 ((b).map encU) .any, .int .i64 mo, .ro 1 ((dl).map encI) .any]] 0 0, .int .i64 a, .int .i64 n] []
    (fun x σ => x = .tup [.int .u64 (ldN b a n), .bool true] ∧ σ = []) := (mem_load b mo dl hb hbb a n).mono fun _ _ ⟨h1, h2⟩ => ⟨h1.trans (ldV_yes h), h2⟩
theorem mem_load_no (b : List Nat) (mo : Int) (dl : List Int) (hb : b.length ≤ 1000000) (hbb : ∀ x ∈ b, x < 256) (a n : Int) (h : hasB b a n = false) : SCall Try.prog 14 [.el 3 [[.ro 1 ((b).map encU) .any, .int .i64 mo, .ro 1 ((dl).map encI) .any]] 0 0, .int .i64 a, .int .i64 n] []
    (fun x σ => x = .tup [.int .u64 0, .bool false] ∧ σ = []) := (mem_load b mo dl hb hbb a n).mono fun _ _ ⟨h1, h2⟩ => ⟨h1.trans (ldV_no h), h2⟩
theorem has_of {b : List Nat} {a n : Nat} (hn : n = 1 ∨ n = 4 ∨ n = 8) (h : a + n ≤ b.length) : hasB b a n = true := by
  unfold hasB
  rw [decide_eq_true (by omega), decide_eq_true (by omega)]
  rcases hn with rfl | rfl | rfl <;> rfl
set_option maxRecDepth 100000 in
theorem law_begun10 : SCall Try.prog 11 [] [] (fun x σ => x = .bool true ∧ σ = []) := by
  refine scall_of (n := 95) (ks := [0, 1, 2, 3, 4, 6, 7, 8, 9, 10, 14]) Try.func11 rfl rfl (Nat.le_of_ble_eq_true rfl) ?_
  (repeat (first | refine cs ?_ | refine cb ?_ | refine ck ?_ | refine cx ?_ | refine cr ?_ | refine an ?_ | refine ae ?_ | refine ar ?_ | refine bn ?_ | refine bh ?_ | refine be rfl ?_ | refine br ?_ | refine ct rfl ?_ | refine cf rfl ?_))
  first | refine sw_seq_region ?_ | refine sw_region ?_
  refine lo (lop_assign (E rfl)) rfl ?_
  apply le; (repeat (first | (apply KeepIs.take; rfl) | (apply KeepIs.skip; rfl) | exact KeepIs.nil))
  (repeat (first | refine cs ?_ | refine cb ?_ | refine ck ?_ | refine cx ?_ | refine cr ?_ | refine an ?_ | refine ae ?_ | refine ar ?_ | refine bn ?_ | refine bh ?_ | refine be rfl ?_ | refine br ?_ | refine ct rfl ?_ | refine cf rfl ?_))
  first | refine sw_seq_region ?_ | refine sw_region ?_
  refine lo (lop_str (by repeat (first | exact PEvs.nil | (apply PEvs.cons; first | exact W rfl id | exact E rfl))) (by (first | (simp only [Value.cells, AV.cells, List.map_cons, List.map_nil, ofConst, ofCell]; rfl) | rfl)) (by repeat (first | exact Fill.nil | (apply Fill.cons; rfl; rfl; rfl; (repeat (first | exact Put.done | apply Put.put | apply Put.skip)))))) rfl ?_
  refine cw [] Try.call12 (mem_new 1 2 (by omega)) rfl ?_ ?_ ?_
  · (repeat (first | exact ArgsLe.nil | (apply ArgsLe.cons; rfl; first | exact VLe.refl _ | exact VLe.when rfl | exact VLe.any | exact VLe.empty | exact VLe.of_eq (by simp))))
  · (first | exact no_mem | exact (fun _ h => h) | (apply StLe.mem; (repeat (first | exact StLe.nil | (apply StLe.cons; (repeat (first | exact List.mem_cons_self | apply List.mem_cons_of_mem)); first | rfl | focus (congr 1; done) | focus (simp; done) | (simp; rfl))))))
  rintro x σ' ⟨m, q, d, ⟨hN1, hN2, hN3⟩, rfl, rfl⟩ -
  rw [show newMo 2 = 2 from rfl]
  (apply rs_sto; (first | (simp (disch := (first | (simp only [List.mem_cons, List.not_mem_nil, true_or, or_true, or_false]; done) | (focus (simp only [List.mem_cons, List.not_mem_nil, or_false, not_or]; (repeat' (first | apply And.intro | (first | assumption | (apply Nq.en; assumption) | omega | (simp only [Nq] at *; omega)))); done)) | omega)) only [↓put_σ, ↓mk_σ, AV.cells, sset, sdrop_none, sdrop_nil, sdrop_in, sdrop_out, List.nil_append, List.cons_append, List.append_nil, List.map_nil, List.map_cons, List.take_succ_cons, List.take_zero, List.drop_succ_cons, List.drop_zero, take_len', take_map_len, Nat.zero_add, Nat.add_zero, ofCell, ofConst]; rfl) | rfl))
  refine lo (lop_assign (E rfl)) rfl ?_
  apply le; (repeat (first | (apply KeepIs.take; rfl) | (apply KeepIs.skip; rfl) | exact KeepIs.nil))
  (repeat (first | refine cs ?_ | refine cb ?_ | refine ck ?_ | refine cx ?_ | refine cr ?_ | refine an ?_ | refine ae ?_ | refine ar ?_ | refine bn ?_ | refine bh ?_ | refine be rfl ?_ | refine br ?_ | refine ct rfl ?_ | refine cf rfl ?_))
  first | refine sw_seq_region ?_ | refine sw_region ?_
  refine lo (lop_move (E rfl)) rfl ?_
  first | refine lo (lop_peql (E rfl) (E rfl) (.inl ⟨rfl, rfl⟩)) rfl ?_ | refine lo (lop_peql (E rfl) (E rfl) (.inr (.inl ⟨⟨_, _, rfl⟩, rfl⟩))) rfl ?_ | refine lo (lop_peql (E rfl) (E rfl) (.inr (.inr (.inl ⟨⟨_, _, _, rfl⟩, rfl⟩)))) rfl ?_ | refine lo (lop_peql (E rfl) (E rfl) (.inr (.inr (.inr ⟨⟨_, _, _, _, rfl⟩, rfl⟩)))) rfl ?_
  apply le; (repeat (first | (apply KeepIs.take; rfl) | (apply KeepIs.skip; rfl) | exact KeepIs.nil))
  (repeat (first | refine cs ?_ | refine cb ?_ | refine ck ?_ | refine cx ?_ | refine cr ?_ | refine an ?_ | refine ae ?_ | refine ar ?_ | refine bn ?_ | refine bh ?_ | refine be rfl ?_ | refine br ?_ | refine ct rfl ?_ | refine cf rfl ?_))
  first | refine sw_seq_region ?_ | refine sw_region ?_
  refine lo (lop_move (E rfl)) rfl ?_
  have hl0 : (List.replicate (256 * 1) 0).length = 256 := by simp
  refine cw [(m, .box 54 [.own q 0 (List.replicate (256 * 1) 0).length, .int .i64 (2), .own d 0 (([] : List Int)).length]), (q, .arr 5 1 ((List.replicate (256 * 1) 0).map encU)), (d, .arr 3 1 ((([] : List Int)).map encI))] Try.call13 (mem_store ⟨hN1, hN2, hN3⟩ (List.replicate (256 * 1) 0) 2 [] (by rw [hl0]; decide) (by decide) List.Pairwise.nil 10 4 287454020 (by decide) (has_of (by decide) (by rw [hl0]; decide))) rfl ?_ ?_ ?_
  · (repeat (first | exact ArgsLe.nil | (apply ArgsLe.cons; rfl; first | exact VLe.refl _ | exact VLe.when rfl | exact VLe.any | exact VLe.empty | exact VLe.of_eq (by simp))))
  · (first | exact no_mem | exact (fun _ h => h) | (apply StLe.mem; (repeat (first | exact StLe.nil | (apply StLe.cons; (repeat (first | exact List.mem_cons_self | apply List.mem_cons_of_mem)); first | rfl | focus (congr 1; done) | focus (simp; done) | (simp; rfl))))))
  rintro x σ' ⟨e, ⟨he1, he2⟩, rfl, rfl⟩ -
  rw [show stD [] 10 4 = [0] from rfl]
  have hl1 : (stN (List.replicate (256 * 1) 0) 10 287454020 4).length = 256 := by rw [stN_len, hl0]
  have hb1 : ∀ x ∈ stN (List.replicate (256 * 1) 0) 10 287454020 4, x < 256 := stN_lt rep_lt _ _ _
  have hp0 : (pageL (stN (List.replicate (256 * 1) 0) 10 287454020 4 ++ List.replicate (256 * 1) 0) 0)[13]? = some 17 := by decide
  have hv1 : ldN (stN (List.replicate (256 * 1) 0) 10 287454020 4) 10 1 = 68 := by decide
  obtain ⟨b, hb⟩ : ∃ b, b = stN (List.replicate (256 * 1) 0) 10 287454020 4 := ⟨_, rfl⟩
  rw [← hb] at hl1 hb1 hv1 hp0 ⊢
  (apply rs_sto; (first | (simp (disch := (first | (simp only [List.mem_cons, List.not_mem_nil, true_or, or_true, or_false]; done) | (focus (simp only [List.mem_cons, List.not_mem_nil, or_false, not_or]; (repeat' (first | apply And.intro | (first | assumption | (apply Nq.en; assumption) | omega | (simp only [Nq] at *; omega)))); done)) | omega)) only [↓put_σ, ↓mk_σ, AV.cells, sset, sdrop_none, sdrop_nil, sdrop_in, sdrop_out, List.nil_append, List.cons_append, List.append_nil, List.map_nil, List.map_cons, List.take_succ_cons, List.take_zero, List.drop_succ_cons, List.drop_zero, take_len', take_map_len, Nat.zero_add, Nat.add_zero, ofCell, ofConst]; rfl) | rfl))
  refine lo (lop_assign (E rfl)) rfl ?_
  apply le; (repeat (first | (apply KeepIs.take; rfl) | (apply KeepIs.skip; rfl) | exact KeepIs.nil))
  (repeat (first | refine cs ?_ | refine cb ?_ | refine ck ?_ | refine cx ?_ | refine cr ?_ | refine an ?_ | refine ae ?_ | refine ar ?_ | refine bn ?_ | refine bh ?_ | refine be rfl ?_ | refine br ?_ | refine ct rfl ?_ | refine cf rfl ?_))
  first | refine sw_seq_region ?_ | refine sw_region ?_
  refine lo (lop_move (E rfl)) rfl ?_
  refine pu [m, q, e] Try.call14 (mem_load_yes b 2 [0] (by omega) hb1 10 1 (has_of (by decide) (by omega))) rfl ?_ (by repeat (first | exact NoF.int | exact NoF.bool | exact NoF.nilp | exact NoF.nil | exact NoF.own | exact NoF.ptr | exact NoF.str | exact nofl_nil | apply NoF.tup | apply NoF.agg | apply nofl_cons)) ?_
  · (repeat (
       first
        | exact ArgsIf.nil
        | (apply ArgsIf.cons; (
         first
          | exact W rfl id
          | exact W rfl (fun _ => rfl)
          | exact E rfl); (
         first
          | exact Bor.refl _
          | exact Bor.le VLe.any
          | exact Bor.le VLe.empty
          | (apply bown; (repeat (
            first
             | exact List.mem_cons_self
             | apply List.mem_cons_of_mem)); (repeat (
            first
             | exact sget_here
             | (apply sget_next; (
              first
               | assumption
               | (apply Nq.en; assumption)
               | omega
               | (simp only [Nq] at *; omega))))); (
           first
            | focus (simp; done)
            | omega
            | focus (simp; omega)); (
           first
            | rfl
            | focus (simp; done)
            | focus (exact List.take_of_length_le (by
             first
              | (simp; done)
              | (simp; omega)))))
          | focus (apply bbox; (repeat (
            first
             | exact List.mem_cons_self
             | apply List.mem_cons_of_mem)); (repeat (
            first
             | exact sget_here
             | (apply sget_next; (
              first
               | assumption
               | (apply Nq.en; assumption)
               | omega
               | (simp only [Nq] at *; omega))))); rfl; rfl; (repeat (
            first
             | exact BorL.nil
             | (apply BorL.cons; (
              first
               | exact Bor.refl _
               | exact Bor.le VLe.any
               | exact Bor.le VLe.empty
               | (apply bown; (repeat (
                 first
                  | exact List.mem_cons_self
                  | apply List.mem_cons_of_mem)); (repeat (
                 first
                  | exact sget_here
                  | (apply sget_next; (
                   first
                    | assumption
                    | (apply Nq.en; assumption)
                    | omega
                    | (simp only [Nq] at *; omega))))); (
                first
                 | focus (simp; done)
                 | omega); (
                first
                 | rfl
                 | focus (simp; done)
                 | focus (exact List.take_of_length_le (by
                  first
                   | (simp; done)
                   | (simp; omega)))))
               | focus (apply Bor.le; apply VLe.of_eq; simp; done))))); done)
          | focus (apply bagg; (repeat (
            first
             | exact BorL.nil
             | (apply BorL.cons; (
              first
               | exact Bor.refl _
               | exact Bor.le VLe.any
               | exact Bor.le VLe.empty
               | (apply bown; (repeat (
                 first
                  | exact List.mem_cons_self
                  | apply List.mem_cons_of_mem)); (repeat (
                 first
                  | exact sget_here
                  | (apply sget_next; (
                   first
                    | assumption
                    | (apply Nq.en; assumption)
                    | omega
                    | (simp only [Nq] at *; omega))))); (
                first
                 | focus (simp; done)
                 | omega); (
                first
                 | rfl
                 | focus (simp; done)
                 | focus (exact List.take_of_length_le (by
                  first
                   | (simp; done)
                   | (simp; omega)))))
               | focus (apply Bor.le; apply VLe.of_eq; simp; done))))); done)
          | focus (apply Bor.le; apply VLe.of_eq; simp; done)))))
  rw [hv1]
  refine lo (lop_move (E rfl)) rfl ?_
  refine lo (lop_extract (E rfl) rfl) rfl ?_
  refine lo (lop_extract (E rfl) rfl) rfl ?_
  refine lo (lop_assign (E rfl)) rfl ?_
  refine lo (lop_assign (E rfl)) rfl ?_
  apply le; (repeat (first | (apply KeepIs.take; rfl) | (apply KeepIs.skip; rfl) | exact KeepIs.nil))
  (repeat (first | refine cs ?_ | refine cb ?_ | refine ck ?_ | refine cx ?_ | refine cr ?_ | refine an ?_ | refine ae ?_ | refine ar ?_ | refine bn ?_ | refine bh ?_ | refine be rfl ?_ | refine br ?_ | refine ct rfl ?_ | refine cf rfl ?_))
  first | refine sw_seq_region ?_ | refine sw_region ?_
  refine lo (lop_move (E rfl)) rfl ?_
  refine pu [m, q, e] Try.call14 (mem_load_no b 2 [0] (by omega) hb1 253 4 (by unfold hasB; rw [hl1]; decide)) rfl ?_ (by repeat (first | exact NoF.int | exact NoF.bool | exact NoF.nilp | exact NoF.nil | exact NoF.own | exact NoF.ptr | exact NoF.str | exact nofl_nil | apply NoF.tup | apply NoF.agg | apply nofl_cons)) ?_
  · (repeat (
       first
        | exact ArgsIf.nil
        | (apply ArgsIf.cons; (
         first
          | exact W rfl id
          | exact W rfl (fun _ => rfl)
          | exact E rfl); (
         first
          | exact Bor.refl _
          | exact Bor.le VLe.any
          | exact Bor.le VLe.empty
          | (apply bown; (repeat (
            first
             | exact List.mem_cons_self
             | apply List.mem_cons_of_mem)); (repeat (
            first
             | exact sget_here
             | (apply sget_next; (
              first
               | assumption
               | (apply Nq.en; assumption)
               | omega
               | (simp only [Nq] at *; omega))))); (
           first
            | focus (simp; done)
            | omega
            | focus (simp; omega)); (
           first
            | rfl
            | focus (simp; done)
            | focus (exact List.take_of_length_le (by
             first
              | (simp; done)
              | (simp; omega)))))
          | focus (apply bbox; (repeat (
            first
             | exact List.mem_cons_self
             | apply List.mem_cons_of_mem)); (repeat (
            first
             | exact sget_here
             | (apply sget_next; (
              first
               | assumption
               | (apply Nq.en; assumption)
               | omega
               | (simp only [Nq] at *; omega))))); rfl; rfl; (repeat (
            first
             | exact BorL.nil
             | (apply BorL.cons; (
              first
               | exact Bor.refl _
               | exact Bor.le VLe.any
               | exact Bor.le VLe.empty
               | (apply bown; (repeat (
                 first
                  | exact List.mem_cons_self
                  | apply List.mem_cons_of_mem)); (repeat (
                 first
                  | exact sget_here
                  | (apply sget_next; (
                   first
                    | assumption
                    | (apply Nq.en; assumption)
                    | omega
                    | (simp only [Nq] at *; omega))))); (
                first
                 | focus (simp; done)
                 | omega); (
                first
                 | rfl
                 | focus (simp; done)
                 | focus (exact List.take_of_length_le (by
                  first
                   | (simp; done)
                   | (simp; omega)))))
               | focus (apply Bor.le; apply VLe.of_eq; simp; done))))); done)
          | focus (apply bagg; (repeat (
            first
             | exact BorL.nil
             | (apply BorL.cons; (
              first
               | exact Bor.refl _
               | exact Bor.le VLe.any
               | exact Bor.le VLe.empty
               | (apply bown; (repeat (
                 first
                  | exact List.mem_cons_self
                  | apply List.mem_cons_of_mem)); (repeat (
                 first
                  | exact sget_here
                  | (apply sget_next; (
                   first
                    | assumption
                    | (apply Nq.en; assumption)
                    | omega
                    | (simp only [Nq] at *; omega))))); (
                first
                 | focus (simp; done)
                 | omega); (
                first
                 | rfl
                 | focus (simp; done)
                 | focus (exact List.take_of_length_le (by
                  first
                   | (simp; done)
                   | (simp; omega)))))
               | focus (apply Bor.le; apply VLe.of_eq; simp; done))))); done)
          | focus (apply Bor.le; apply VLe.of_eq; simp; done)))))
  refine lo (lop_move (E rfl)) rfl ?_
  refine lo (lop_extract (E rfl) rfl) rfl ?_
  refine lo (lop_extract (E rfl) rfl) rfl ?_
  refine lo (lop_assign (E rfl)) rfl ?_
  refine lo (lop_assign (E rfl)) rfl ?_
  apply le; (repeat (first | (apply KeepIs.take; rfl) | (apply KeepIs.skip; rfl) | exact KeepIs.nil))
  (repeat (first | refine cs ?_ | refine cb ?_ | refine ck ?_ | refine cx ?_ | refine cr ?_ | refine an ?_ | refine ae ?_ | refine ar ?_ | refine bn ?_ | refine bh ?_ | refine be rfl ?_ | refine br ?_ | refine ct rfl ?_ | refine cf rfl ?_))
  first | refine sw_seq_region ?_ | refine sw_region ?_
  refine lo (lop_move (E rfl)) rfl ?_
  refine cl [m, q, e] Try.call18 (mem_dirty b 2 [0] (by decide)) rfl ?_ ?_ ?_
  · (repeat (
       first
        | exact ArgsBor.nil
        | (apply ArgsBor.cons; rfl; (
         first
          | exact Bor.refl _
          | exact Bor.le VLe.any
          | exact Bor.le VLe.empty
          | (apply bown; (repeat (
            first
             | exact List.mem_cons_self
             | apply List.mem_cons_of_mem)); (repeat (
            first
             | exact sget_here
             | (apply sget_next; (
              first
               | assumption
               | (apply Nq.en; assumption)
               | omega
               | (simp only [Nq] at *; omega))))); (
           first
            | focus (simp; done)
            | omega
            | focus (simp; omega)); (
           first
            | rfl
            | focus (simp; done)
            | focus (exact List.take_of_length_le (by
             first
              | (simp; done)
              | (simp; omega)))))
          | focus (apply bbox; (repeat (
            first
             | exact List.mem_cons_self
             | apply List.mem_cons_of_mem)); (repeat (
            first
             | exact sget_here
             | (apply sget_next; (
              first
               | assumption
               | (apply Nq.en; assumption)
               | omega
               | (simp only [Nq] at *; omega))))); rfl; rfl; (repeat (
            first
             | exact BorL.nil
             | (apply BorL.cons; (
              first
               | exact Bor.refl _
               | exact Bor.le VLe.any
               | exact Bor.le VLe.empty
               | (apply bown; (repeat (
                 first
                  | exact List.mem_cons_self
                  | apply List.mem_cons_of_mem)); (repeat (
                 first
                  | exact sget_here
                  | (apply sget_next; (
                   first
                    | assumption
                    | (apply Nq.en; assumption)
                    | omega
                    | (simp only [Nq] at *; omega))))); (
                first
                 | focus (simp; done)
                 | omega); (
                first
                 | rfl
                 | focus (simp; done)
                 | focus (exact List.take_of_length_le (by
                  first
                   | (simp; done)
                   | (simp; omega)))))
               | focus (apply Bor.le; apply VLe.of_eq; simp; done))))); done)
          | focus (apply bagg; (repeat (
            first
             | exact BorL.nil
             | (apply BorL.cons; (
              first
               | exact Bor.refl _
               | exact Bor.le VLe.any
               | exact Bor.le VLe.empty
               | (apply bown; (repeat (
                 first
                  | exact List.mem_cons_self
                  | apply List.mem_cons_of_mem)); (repeat (
                 first
                  | exact sget_here
                  | (apply sget_next; (
                   first
                    | assumption
                    | (apply Nq.en; assumption)
                    | omega
                    | (simp only [Nq] at *; omega))))); (
                first
                 | focus (simp; done)
                 | omega); (
                first
                 | rfl
                 | focus (simp; done)
                 | focus (exact List.take_of_length_le (by
                  first
                   | (simp; done)
                   | (simp; omega)))))
               | focus (apply Bor.le; apply VLe.of_eq; simp; done))))); done)
          | focus (apply Bor.le; apply VLe.of_eq; simp; done)))))
  · rintro x σ' ⟨r, rfl, rfl⟩
    refine ⟨NoF.own, ?_⟩
    simp only [List.mem_singleton, forall_eq]
    exact ints_noF
  rintro x σ' ⟨d1, rfl, rfl⟩ hd1
  rw [show ([0] : List Int).length = 1 from rfl]
  simp only [List.mem_cons, List.mem_singleton, List.not_mem_nil, or_false, forall_eq_or_imp, forall_eq, fresh_cons, fresh_nil, and_true, and_assoc] at hd1; (repeat (rcases hd1 with ⟨_, hd1⟩))
  (apply rs_sto; (first | (simp (disch := (first | (simp only [List.mem_cons, List.not_mem_nil, true_or, or_true, or_false]; done) | (focus (simp only [List.mem_cons, List.not_mem_nil, or_false, not_or]; (repeat' (first | apply And.intro | (first | assumption | (apply Nq.en; assumption) | omega | (simp only [Nq] at *; omega)))); done)) | omega)) only [↓put_σ, ↓mk_σ, AV.cells, sset, sdrop_none, sdrop_nil, sdrop_in, sdrop_out, List.nil_append, List.cons_append, List.append_nil, List.map_nil, List.map_cons, List.take_succ_cons, List.take_zero, List.drop_succ_cons, List.drop_zero, take_len', take_map_len, Nat.zero_add, Nat.add_zero, ofCell, ofConst]; rfl) | rfl))
  refine lo (lop_assign (E rfl)) rfl ?_
  apply le; (repeat (first | (apply KeepIs.take; rfl) | (apply KeepIs.skip; rfl) | exact KeepIs.nil))
  (repeat (first | refine cs ?_ | refine cb ?_ | refine ck ?_ | refine cx ?_ | refine cr ?_ | refine an ?_ | refine ae ?_ | refine ar ?_ | refine bn ?_ | refine bh ?_ | refine be rfl ?_ | refine br ?_ | refine ct rfl ?_ | refine cf rfl ?_))
  first | refine sw_seq_region ?_ | refine sw_region ?_
  refine lo (lop_move (E rfl)) rfl ?_
  refine cw [(m, .box 54 [.own q 0 (b).length, .int .i64 (2), .own e 0 (([0] : List Int)).length]), (q, .arr 5 1 ((b).map encU)), (e, .arr 3 1 ((([0] : List Int)).map encI))] Try.call20 (mem_clean ⟨hN1, he1, he2⟩ b 2 [0]) rfl ?_ ?_ ?_
  · (repeat (first | exact ArgsLe.nil | (apply ArgsLe.cons; rfl; first | exact VLe.refl _ | exact VLe.when rfl | exact VLe.any | exact VLe.empty | exact VLe.of_eq (by simp))))
  · (first | exact no_mem | exact (fun _ h => h) | (apply StLe.mem; (repeat (first | exact StLe.nil | (apply StLe.cons; (repeat (first | exact List.mem_cons_self | apply List.mem_cons_of_mem)); first | rfl | focus (congr 1; done) | focus (simp; done) | (simp; rfl))))))
  rintro x σ' ⟨e2, ⟨k1, k2⟩, rfl⟩ hk
  have hk2 := fresh_rest (hk _ (List.mem_cons_of_mem _ (List.mem_cons_of_mem _ List.mem_cons_self))); simp (disch := (first | (simp only [List.mem_cons, List.not_mem_nil, true_or, or_true, or_false]; done) | (focus (simp only [List.mem_cons, List.not_mem_nil, or_false, not_or]; (repeat' (first | apply And.intro | (first | assumption | (apply Nq.en; assumption) | omega | (simp only [Nq] at *; omega)))); done)) | omega)) only [List.map_cons, List.map_nil, sdrop_none, sdrop_nil, sdrop_in, sdrop_out, fresh_cons, fresh_nil, and_true] at hk2; (repeat (rcases hk2 with ⟨_, hk2⟩))
  (apply rs_sto; (first | (simp (disch := (first | (simp only [List.mem_cons, List.not_mem_nil, true_or, or_true, or_false]; done) | (focus (simp only [List.mem_cons, List.not_mem_nil, or_false, not_or]; (repeat' (first | apply And.intro | (first | assumption | (apply Nq.en; assumption) | omega | (simp only [Nq] at *; omega)))); done)) | omega)) only [↓put_σ, ↓mk_σ, AV.cells, sset, sdrop_none, sdrop_nil, sdrop_in, sdrop_out, List.nil_append, List.cons_append, List.append_nil, List.map_nil, List.map_cons, List.take_succ_cons, List.take_zero, List.drop_succ_cons, List.drop_zero, take_len', take_map_len, Nat.zero_add, Nat.add_zero, ofCell, ofConst]; rfl) | rfl))
  apply le; (repeat (first | (apply KeepIs.take; rfl) | (apply KeepIs.skip; rfl) | exact KeepIs.nil))
  (repeat (first | refine cs ?_ | refine cb ?_ | refine ck ?_ | refine cx ?_ | refine cr ?_ | refine an ?_ | refine ae ?_ | refine ar ?_ | refine bn ?_ | refine bh ?_ | refine be rfl ?_ | refine br ?_ | refine ct rfl ?_ | refine cf rfl ?_))
  first | refine sw_seq_region ?_ | refine sw_region ?_
  refine lo (lop_move (E rfl)) rfl ?_
  refine cw [(m, .box 54 [.own q 0 (b).length, .int .i64 (2), .own e2 0 (([] : List Int)).length]), (q, .arr 5 1 ((b).map encU)), (e2, .arr 3 1 ((([] : List Int)).map encI))] Try.call15 (mem_grow ⟨hN1, k1, k2⟩ b 2 [] (by omega) (by decide) List.Pairwise.nil (by decide) 1 (by rw [hl1]; decide)) rfl ?_ ?_ ?_
  · (repeat (first | exact ArgsLe.nil | (apply ArgsLe.cons; rfl; first | exact VLe.refl _ | exact VLe.when rfl | exact VLe.any | exact VLe.empty | exact VLe.of_eq (by simp))))
  · (first | exact no_mem | exact (fun _ h => h) | (apply StLe.mem; (repeat (first | exact StLe.nil | (apply StLe.cons; (repeat (first | exact List.mem_cons_self | apply List.mem_cons_of_mem)); first | rfl | focus (congr 1; done) | focus (simp; done) | (simp; rfl))))))
  rintro x σ' ⟨q3, d3, ⟨j1, j2, j3⟩, rfl, rfl⟩ hj
  rw [show growL [] (b.length / 256) 1 = [1] by rw [hl1]; rfl, show b.length / 256 = 1 by rw [hl1]]
  have hj2 := hj
  have hj4 := fresh_rest (hj _ (List.mem_cons_of_mem _ List.mem_cons_self)); simp (disch := (first | (simp only [List.mem_cons, List.not_mem_nil, true_or, or_true, or_false]; done) | (focus (simp only [List.mem_cons, List.not_mem_nil, or_false, not_or]; (repeat' (first | apply And.intro | (first | assumption | (apply Nq.en; assumption) | omega | (simp only [Nq] at *; omega)))); done)) | omega)) only [List.map_cons, List.map_nil, sdrop_none, sdrop_nil, sdrop_in, sdrop_out, fresh_cons, fresh_nil, and_true] at hj4; (repeat (rcases hj4 with ⟨_, hj4⟩))
  have hj5 := fresh_rest (hj2 _ (List.mem_cons_of_mem _ (List.mem_cons_of_mem _ List.mem_cons_self))); simp (disch := (first | (simp only [List.mem_cons, List.not_mem_nil, true_or, or_true, or_false]; done) | (focus (simp only [List.mem_cons, List.not_mem_nil, or_false, not_or]; (repeat' (first | apply And.intro | (first | assumption | (apply Nq.en; assumption) | omega | (simp only [Nq] at *; omega)))); done)) | omega)) only [List.map_cons, List.map_nil, sdrop_none, sdrop_nil, sdrop_in, sdrop_out, fresh_cons, fresh_nil, and_true] at hj5; (repeat (rcases hj5 with ⟨_, hj5⟩))
  have hl2 : (b ++ List.replicate (256 * 1) 0).length = 512 := by simp [hl1]
  have hpl := pageL_len (b := b ++ List.replicate (256 * 1) 0) (i := 0) (by rw [hl2]; decide)
  obtain ⟨c, hc⟩ : ∃ c, c = b ++ List.replicate (256 * 1) 0 := ⟨_, rfl⟩
  rw [← hc] at hl2 hp0 hpl ⊢
  (apply rs_sto; (first | (simp (disch := (first | (simp only [List.mem_cons, List.not_mem_nil, true_or, or_true, or_false]; done) | (focus (simp only [List.mem_cons, List.not_mem_nil, or_false, not_or]; (repeat' (first | apply And.intro | (first | assumption | (apply Nq.en; assumption) | omega | (simp only [Nq] at *; omega)))); done)) | omega)) only [↓put_σ, ↓mk_σ, AV.cells, sset, sdrop_none, sdrop_nil, sdrop_in, sdrop_out, List.nil_append, List.cons_append, List.append_nil, List.map_nil, List.map_cons, List.take_succ_cons, List.take_zero, List.drop_succ_cons, List.drop_zero, take_len', take_map_len, Nat.zero_add, Nat.add_zero, ofCell, ofConst]; rfl) | rfl))
  refine lo (lop_move (E rfl)) rfl ?_
  refine cw [(m, .box 54 [.own q3 0 (c).length, .int .i64 (2), .own d3 0 (([1] : List Int)).length]), (q3, .arr 5 1 ((c).map encU)), (d3, .arr 3 1 ((([1] : List Int)).map encI))] Try.call15 (mem_grow_no ⟨j1, j2, j3⟩ c 2 [1] (by omega) (by decide) (by decide) 1 (.inr (by rw [hl2]; decide))) rfl ?_ ?_ ?_
  · (repeat (first | exact ArgsLe.nil | (apply ArgsLe.cons; rfl; first | exact VLe.refl _ | exact VLe.when rfl | exact VLe.any | exact VLe.empty | exact VLe.of_eq (by simp))))
  · (first | exact no_mem | exact (fun _ h => h) | (apply StLe.mem; (repeat (first | exact StLe.nil | (apply StLe.cons; (repeat (first | exact List.mem_cons_self | apply List.mem_cons_of_mem)); first | rfl | focus (congr 1; done) | focus (simp; done) | (simp; rfl))))))
  rintro x σ' ⟨rfl, rfl⟩ -
  (apply rs_sto; (first | (simp (disch := (first | (simp only [List.mem_cons, List.not_mem_nil, true_or, or_true, or_false]; done) | (focus (simp only [List.mem_cons, List.not_mem_nil, or_false, not_or]; (repeat' (first | apply And.intro | (first | assumption | (apply Nq.en; assumption) | omega | (simp only [Nq] at *; omega)))); done)) | omega)) only [↓put_σ, ↓mk_σ, AV.cells, sset, sdrop_none, sdrop_nil, sdrop_in, sdrop_out, List.nil_append, List.cons_append, List.append_nil, List.map_nil, List.map_cons, List.take_succ_cons, List.take_zero, List.drop_succ_cons, List.drop_zero, take_len', take_map_len, Nat.zero_add, Nat.add_zero, ofCell, ofConst]; rfl) | rfl))
  refine lo (lop_assign (E rfl)) rfl ?_
  refine lo (lop_assign (E rfl)) rfl ?_
  apply le; (repeat (first | (apply KeepIs.take; rfl) | (apply KeepIs.skip; rfl) | exact KeepIs.nil))
  (repeat (first | refine cs ?_ | refine cb ?_ | refine ck ?_ | refine cx ?_ | refine cr ?_ | refine an ?_ | refine ae ?_ | refine ar ?_ | refine bn ?_ | refine bh ?_ | refine be rfl ?_ | refine br ?_ | refine ct rfl ?_ | refine cf rfl ?_))
  first | refine sw_seq_region ?_ | refine sw_region ?_
  refine lo (lop_move (E rfl)) rfl ?_
  refine cl [m, q3, d3] Try.call17 (mem_page c 2 [1] (by omega) 0 (by rw [hl2]; decide)) rfl ?_ ?_ ?_
  · (repeat (
       first
        | exact ArgsBor.nil
        | (apply ArgsBor.cons; rfl; (
         first
          | exact Bor.refl _
          | exact Bor.le VLe.any
          | exact Bor.le VLe.empty
          | (apply bown; (repeat (
            first
             | exact List.mem_cons_self
             | apply List.mem_cons_of_mem)); (repeat (
            first
             | exact sget_here
             | (apply sget_next; (
              first
               | assumption
               | (apply Nq.en; assumption)
               | omega
               | (simp only [Nq] at *; omega))))); (
           first
            | focus (simp; done)
            | omega
            | focus (simp; omega)); (
           first
            | rfl
            | focus (simp; done)
            | focus (exact List.take_of_length_le (by
             first
              | (simp; done)
              | (simp; omega)))))
          | focus (apply bbox; (repeat (
            first
             | exact List.mem_cons_self
             | apply List.mem_cons_of_mem)); (repeat (
            first
             | exact sget_here
             | (apply sget_next; (
              first
               | assumption
               | (apply Nq.en; assumption)
               | omega
               | (simp only [Nq] at *; omega))))); rfl; rfl; (repeat (
            first
             | exact BorL.nil
             | (apply BorL.cons; (
              first
               | exact Bor.refl _
               | exact Bor.le VLe.any
               | exact Bor.le VLe.empty
               | (apply bown; (repeat (
                 first
                  | exact List.mem_cons_self
                  | apply List.mem_cons_of_mem)); (repeat (
                 first
                  | exact sget_here
                  | (apply sget_next; (
                   first
                    | assumption
                    | (apply Nq.en; assumption)
                    | omega
                    | (simp only [Nq] at *; omega))))); (
                first
                 | focus (simp; done)
                 | omega); (
                first
                 | rfl
                 | focus (simp; done)
                 | focus (exact List.take_of_length_le (by
                  first
                   | (simp; done)
                   | (simp; omega)))))
               | focus (apply Bor.le; apply VLe.of_eq; simp; done))))); done)
          | focus (apply bagg; (repeat (
            first
             | exact BorL.nil
             | (apply BorL.cons; (
              first
               | exact Bor.refl _
               | exact Bor.le VLe.any
               | exact Bor.le VLe.empty
               | (apply bown; (repeat (
                 first
                  | exact List.mem_cons_self
                  | apply List.mem_cons_of_mem)); (repeat (
                 first
                  | exact sget_here
                  | (apply sget_next; (
                   first
                    | assumption
                    | (apply Nq.en; assumption)
                    | omega
                    | (simp only [Nq] at *; omega))))); (
                first
                 | focus (simp; done)
                 | omega); (
                first
                 | rfl
                 | focus (simp; done)
                 | focus (exact List.take_of_length_le (by
                  first
                   | (simp; done)
                   | (simp; omega)))))
               | focus (apply Bor.le; apply VLe.of_eq; simp; done))))); done)
          | focus (apply Bor.le; apply VLe.of_eq; simp; done)))))
  · rintro x σ' ⟨r, rfl, rfl⟩
    refine ⟨NoF.own, ?_⟩
    simp only [List.mem_singleton, forall_eq]
    exact bytes_noF
  rintro x σ' ⟨pg, rfl, rfl⟩ hpg
  simp only [List.mem_cons, List.mem_singleton, List.not_mem_nil, or_false, forall_eq_or_imp, forall_eq, fresh_cons, fresh_nil, and_true, and_assoc] at hpg; (repeat (rcases hpg with ⟨_, hpg⟩))
  (apply rs_sto; (first | (simp (disch := (first | (simp only [List.mem_cons, List.not_mem_nil, true_or, or_true, or_false]; done) | (focus (simp only [List.mem_cons, List.not_mem_nil, or_false, not_or]; (repeat' (first | apply And.intro | (first | assumption | (apply Nq.en; assumption) | omega | (simp only [Nq] at *; omega)))); done)) | omega)) only [↓put_σ, ↓mk_σ, AV.cells, sset, sdrop_none, sdrop_nil, sdrop_in, sdrop_out, List.nil_append, List.cons_append, List.append_nil, List.map_nil, List.map_cons, List.take_succ_cons, List.take_zero, List.drop_succ_cons, List.drop_zero, take_len', take_map_len, Nat.zero_add, Nat.add_zero, ofCell, ofConst]; rfl) | rfl))
  refine lo (lop_assign (E rfl)) rfl ?_
  apply le; (repeat (first | (apply KeepIs.take; rfl) | (apply KeepIs.skip; rfl) | exact KeepIs.nil))
  (repeat (first | refine cs ?_ | refine cb ?_ | refine ck ?_ | refine cx ?_ | refine cr ?_ | refine an ?_ | refine ae ?_ | refine ar ?_ | refine bn ?_ | refine bh ?_ | refine be rfl ?_ | refine br ?_ | refine ct rfl ?_ | refine cf rfl ?_))
  first | refine sw_seq_region ?_ | refine sw_region ?_
  refine lo (lop_move (E rfl)) rfl ?_
  refine lo (lop_move (E rfl)) rfl ?_
  refine gy rfl rfl ?_; refine lo (lop_move (E rfl)) rfl ?_
  refine gy rfl rfl ?_; refine lo (lop_eql (by first | exact E rfl | exact W rfl id) (E rfl)) rfl ?_
  first | refine lo (lop_pick_t (E rfl) (by first | exact E rfl | exact W rfl (by simp))) rfl ?_ | refine lo (lop_pick_f (E rfl) (E rfl)) rfl ?_ | refine lo (lop_pick (E rfl) (by first | exact E rfl | exact W rfl (by simp)) (E rfl)) rfl ?_
  refine lo (lop_move (E rfl)) rfl ?_
  refine gy rfl rfl ?_; refine lo (lop_move (E rfl)) rfl ?_
  first | refine lo (lop_pick_t (E rfl) (by first | exact E rfl | exact W rfl (by simp))) rfl ?_ | refine lo (lop_pick_f (E rfl) (E rfl)) rfl ?_ | refine lo (lop_pick (E rfl) (by first | exact E rfl | exact W rfl (by simp)) (E rfl)) rfl ?_
  refine lo (lop_move (E rfl)) rfl ?_
  refine gy rfl rfl ?_; refine lo (lop_move (E rfl)) rfl ?_
  refine gy rfl rfl ?_; refine lo (lop_not (by first | exact E rfl | exact W rfl id)) rfl ?_
  first | refine lo (lop_pick_t (E rfl) (by first | exact E rfl | exact W rfl (by simp))) rfl ?_ | refine lo (lop_pick_f (E rfl) (E rfl)) rfl ?_ | refine lo (lop_pick (E rfl) (by first | exact E rfl | exact W rfl (by simp)) (E rfl)) rfl ?_
  refine lo (lop_move (E rfl)) rfl ?_
  refine gy rfl rfl ?_; refine lo (lop_move (E rfl)) rfl ?_
  refine gy rfl rfl ?_; first | refine lo (lop_len_map (by first | exact E rfl | exact W rfl id)) rfl ?_ | refine lo (lop_len_ro (by first | exact E rfl | exact W rfl id)) rfl ?_ | refine lo (lop_len_own (by first | exact E rfl | exact W rfl id)) rfl ?_
  refine gy rfl rfl ?_; refine lo (lop_eql (by first | exact E rfl | exact W rfl id) (E rfl)) rfl ?_
  first | refine lo (lop_pick_t (E rfl) (by first | exact E rfl | exact W rfl (by simp))) rfl ?_ | refine lo (lop_pick_f (E rfl) (E rfl)) rfl ?_ | refine lo (lop_pick (E rfl) (by first | exact E rfl | exact W rfl (by simp)) (E rfl)) rfl ?_
  refine lo (lop_move (E rfl)) rfl ?_
  refine gy rfl rfl ?_; refine lo (lop_move (E rfl)) rfl ?_
  refine gy rfl rfl ?_; first | refine lo (lop_index_ro (by first | exact E rfl | exact W rfl id) (E rfl) (fun hc => by (simp only [List.length_map]; omega))) rfl ?_ | refine lo (lop_index_own0 (by first | exact E rfl | exact W rfl id) (by repeat (first | exact sget_here | refine sget_next (by (first | assumption | (apply Nq.en; assumption) | omega | (simp only [Nq] at *; omega))) ?_)) (E rfl) (fun hc => by omega)) rfl ?_ | refine lo (lop_index_own (by first | exact E rfl | exact W rfl id) (by repeat (first | exact sget_here | refine sget_next (by (first | assumption | (apply Nq.en; assumption) | omega | (simp only [Nq] at *; omega))) ?_)) (E rfl) (fun hc => by omega)) rfl ?_
  refine gy rfl rfl ?_; first | refine lo (lop_load_el (by first | exact E rfl | exact W rfl id) rfl (fun hc => by first | rfl | exact get_map (by assumption) | assumption | exact get_map (at_bang (by omega))) (fun _ => rfl)) rfl ?_ | refine lo (lop_load_ow (by first | exact E rfl | exact W rfl id) rfl (by repeat (first | exact sget_here | refine sget_next (by (first | assumption | (apply Nq.en; assumption) | omega | (simp only [Nq] at *; omega))) ?_)) (fun hc => by first | rfl | exact get_map (by assumption) | assumption | exact get_map (at_bang (by omega))) (fun _ => rfl)) rfl ?_
  refine gy rfl rfl ?_; refine lo (lop_eql (by first | exact E rfl | exact W rfl id) (E rfl)) rfl ?_
  first | refine lo (lop_pick_t (E rfl) (by first | exact E rfl | exact W rfl (by simp))) rfl ?_ | refine lo (lop_pick_f (E rfl) (E rfl)) rfl ?_ | refine lo (lop_pick (E rfl) (by first | exact E rfl | exact W rfl (by simp)) (E rfl)) rfl ?_
  refine lo (lop_move (E rfl)) rfl ?_
  refine gy rfl rfl ?_; refine lo (lop_move (E rfl)) rfl ?_
  refine gy rfl rfl ?_; refine lo (lop_eql (by first | exact E rfl | exact W rfl id) (E rfl)) rfl ?_
  first | refine lo (lop_pick_t (E rfl) (by first | exact E rfl | exact W rfl (by simp))) rfl ?_ | refine lo (lop_pick_f (E rfl) (E rfl)) rfl ?_ | refine lo (lop_pick (E rfl) (by first | exact E rfl | exact W rfl (by simp)) (E rfl)) rfl ?_
  refine lo (lop_move (E rfl)) rfl ?_
  refine gy rfl rfl ?_; refine lo (lop_move (E rfl)) rfl ?_
  refine gy rfl rfl ?_; refine lo (lop_eql (by first | exact E rfl | exact W rfl id) (E rfl)) rfl ?_
  first | refine lo (lop_pick_t (E rfl) (by first | exact E rfl | exact W rfl (by simp))) rfl ?_ | refine lo (lop_pick_f (E rfl) (E rfl)) rfl ?_ | refine lo (lop_pick (E rfl) (by first | exact E rfl | exact W rfl (by simp)) (E rfl)) rfl ?_
  refine lo (lop_move (E rfl)) rfl ?_
  refine gy rfl rfl ?_; refine lo (lop_move (E rfl)) rfl ?_
  refine gy rfl rfl ?_
  refine pu [m, q3, d3] Try.call16 (mem_pages c 2 [1] (by omega)) rfl ?_ (by repeat (first | exact NoF.int | exact NoF.bool | exact NoF.nilp | exact NoF.nil | exact NoF.own | exact NoF.ptr | exact NoF.str | exact nofl_nil | apply NoF.tup | apply NoF.agg | apply nofl_cons)) ?_
  · (repeat (
       first
        | exact ArgsIf.nil
        | (apply ArgsIf.cons; (
         first
          | exact W rfl id
          | exact W rfl (fun _ => rfl)
          | exact E rfl); (
         first
          | exact Bor.refl _
          | exact Bor.le VLe.any
          | exact Bor.le VLe.empty
          | (apply bown; (repeat (
            first
             | exact List.mem_cons_self
             | apply List.mem_cons_of_mem)); (repeat (
            first
             | exact sget_here
             | (apply sget_next; (
              first
               | assumption
               | (apply Nq.en; assumption)
               | omega
               | (simp only [Nq] at *; omega))))); (
           first
            | focus (simp; done)
            | omega
            | focus (simp; omega)); (
           first
            | rfl
            | focus (simp; done)
            | focus (exact List.take_of_length_le (by
             first
              | (simp; done)
              | (simp; omega)))))
          | focus (apply bbox; (repeat (
            first
             | exact List.mem_cons_self
             | apply List.mem_cons_of_mem)); (repeat (
            first
             | exact sget_here
             | (apply sget_next; (
              first
               | assumption
               | (apply Nq.en; assumption)
               | omega
               | (simp only [Nq] at *; omega))))); rfl; rfl; (repeat (
            first
             | exact BorL.nil
             | (apply BorL.cons; (
              first
               | exact Bor.refl _
               | exact Bor.le VLe.any
               | exact Bor.le VLe.empty
               | (apply bown; (repeat (
                 first
                  | exact List.mem_cons_self
                  | apply List.mem_cons_of_mem)); (repeat (
                 first
                  | exact sget_here
                  | (apply sget_next; (
                   first
                    | assumption
                    | (apply Nq.en; assumption)
                    | omega
                    | (simp only [Nq] at *; omega))))); (
                first
                 | focus (simp; done)
                 | omega); (
                first
                 | rfl
                 | focus (simp; done)
                 | focus (exact List.take_of_length_le (by
                  first
                   | (simp; done)
                   | (simp; omega)))))
               | focus (apply Bor.le; apply VLe.of_eq; simp; done))))); done)
          | focus (apply bagg; (repeat (
            first
             | exact BorL.nil
             | (apply BorL.cons; (
              first
               | exact Bor.refl _
               | exact Bor.le VLe.any
               | exact Bor.le VLe.empty
               | (apply bown; (repeat (
                 first
                  | exact List.mem_cons_self
                  | apply List.mem_cons_of_mem)); (repeat (
                 first
                  | exact sget_here
                  | (apply sget_next; (
                   first
                    | assumption
                    | (apply Nq.en; assumption)
                    | omega
                    | (simp only [Nq] at *; omega))))); (
                first
                 | focus (simp; done)
                 | omega); (
                first
                 | rfl
                 | focus (simp; done)
                 | focus (exact List.take_of_length_le (by
                  first
                   | (simp; done)
                   | (simp; omega)))))
               | focus (apply Bor.le; apply VLe.of_eq; simp; done))))); done)
          | focus (apply Bor.le; apply VLe.of_eq; simp; done)))))
  rw [show c.length / 256 = 2 by rw [hl2]]
  refine gy rfl rfl ?_; refine lo (lop_eql (by first | exact E rfl | exact W rfl id) (E rfl)) rfl ?_
  first | refine lo (lop_pick_t (E rfl) (by first | exact E rfl | exact W rfl (by simp))) rfl ?_ | refine lo (lop_pick_f (E rfl) (E rfl)) rfl ?_ | refine lo (lop_pick (E rfl) (by first | exact E rfl | exact W rfl (by simp)) (E rfl)) rfl ?_
  refine lo (lop_move (E rfl)) rfl ?_
  refine gy rfl rfl ?_; refine lo (lop_move (E rfl)) rfl ?_
  refine gy rfl rfl ?_; first | refine lo (lop_len_map (by first | exact E rfl | exact W rfl id)) rfl ?_ | refine lo (lop_len_ro (by first | exact E rfl | exact W rfl id)) rfl ?_ | refine lo (lop_len_own (by first | exact E rfl | exact W rfl id)) rfl ?_
  refine gy rfl rfl ?_; refine lo (lop_eql (by first | exact E rfl | exact W rfl id) (E rfl)) rfl ?_
  first | refine lo (lop_pick_t (E rfl) (by first | exact E rfl | exact W rfl (by simp))) rfl ?_ | refine lo (lop_pick_f (E rfl) (E rfl)) rfl ?_ | refine lo (lop_pick (E rfl) (by first | exact E rfl | exact W rfl (by simp)) (E rfl)) rfl ?_
  refine lo (lop_move (E rfl)) rfl ?_
  refine gy rfl rfl ?_; refine lo (lop_move (E rfl)) rfl ?_
  refine gy rfl rfl ?_; first | refine lo (lop_index_ro (by first | exact E rfl | exact W rfl id) (E rfl) (fun hc => by (simp only [List.length_map]; omega))) rfl ?_ | refine lo (lop_index_own0 (by first | exact E rfl | exact W rfl id) (by repeat (first | exact sget_here | refine sget_next (by (first | assumption | (apply Nq.en; assumption) | omega | (simp only [Nq] at *; omega))) ?_)) (E rfl) (fun hc => by omega)) rfl ?_ | refine lo (lop_index_own (by first | exact E rfl | exact W rfl id) (by repeat (first | exact sget_here | refine sget_next (by (first | assumption | (apply Nq.en; assumption) | omega | (simp only [Nq] at *; omega))) ?_)) (E rfl) (fun hc => by omega)) rfl ?_
  refine gy rfl rfl ?_; first | refine lo (lop_load_el (by first | exact E rfl | exact W rfl id) rfl (fun hc => by first | rfl | exact get_map (by assumption) | assumption | exact get_map (at_bang (by omega))) (fun _ => rfl)) rfl ?_ | refine lo (lop_load_ow (by first | exact E rfl | exact W rfl id) rfl (by repeat (first | exact sget_here | refine sget_next (by (first | assumption | (apply Nq.en; assumption) | omega | (simp only [Nq] at *; omega))) ?_)) (fun hc => by first | rfl | exact get_map (by assumption) | assumption | exact get_map (at_bang (by omega))) (fun _ => rfl)) rfl ?_
  refine gy rfl rfl ?_; refine lo (lop_eql (by first | exact E rfl | exact W rfl id) (E rfl)) rfl ?_
  first | refine lo (lop_pick_t (E rfl) (by first | exact E rfl | exact W rfl (by simp))) rfl ?_ | refine lo (lop_pick_f (E rfl) (E rfl)) rfl ?_ | refine lo (lop_pick (E rfl) (by first | exact E rfl | exact W rfl (by simp)) (E rfl)) rfl ?_
  refine lo (lop_move (E rfl)) rfl ?_
  refine gy rfl rfl ?_; refine lo (lop_move (E rfl)) rfl ?_
  refine gy rfl rfl ?_
  refine cl [m, q3, d3] Try.call18 (mem_dirty c 2 [1] (by decide)) rfl ?_ ?_ ?_
  · (repeat (
       first
        | exact ArgsBor.nil
        | (apply ArgsBor.cons; rfl; (
         first
          | exact Bor.refl _
          | exact Bor.le VLe.any
          | exact Bor.le VLe.empty
          | (apply bown; (repeat (
            first
             | exact List.mem_cons_self
             | apply List.mem_cons_of_mem)); (repeat (
            first
             | exact sget_here
             | (apply sget_next; (
              first
               | assumption
               | (apply Nq.en; assumption)
               | omega
               | (simp only [Nq] at *; omega))))); (
           first
            | focus (simp; done)
            | omega
            | focus (simp; omega)); (
           first
            | rfl
            | focus (simp; done)
            | focus (exact List.take_of_length_le (by
             first
              | (simp; done)
              | (simp; omega)))))
          | focus (apply bbox; (repeat (
            first
             | exact List.mem_cons_self
             | apply List.mem_cons_of_mem)); (repeat (
            first
             | exact sget_here
             | (apply sget_next; (
              first
               | assumption
               | (apply Nq.en; assumption)
               | omega
               | (simp only [Nq] at *; omega))))); rfl; rfl; (repeat (
            first
             | exact BorL.nil
             | (apply BorL.cons; (
              first
               | exact Bor.refl _
               | exact Bor.le VLe.any
               | exact Bor.le VLe.empty
               | (apply bown; (repeat (
                 first
                  | exact List.mem_cons_self
                  | apply List.mem_cons_of_mem)); (repeat (
                 first
                  | exact sget_here
                  | (apply sget_next; (
                   first
                    | assumption
                    | (apply Nq.en; assumption)
                    | omega
                    | (simp only [Nq] at *; omega))))); (
                first
                 | focus (simp; done)
                 | omega); (
                first
                 | rfl
                 | focus (simp; done)
                 | focus (exact List.take_of_length_le (by
                  first
                   | (simp; done)
                   | (simp; omega)))))
               | focus (apply Bor.le; apply VLe.of_eq; simp; done))))); done)
          | focus (apply bagg; (repeat (
            first
             | exact BorL.nil
             | (apply BorL.cons; (
              first
               | exact Bor.refl _
               | exact Bor.le VLe.any
               | exact Bor.le VLe.empty
               | (apply bown; (repeat (
                 first
                  | exact List.mem_cons_self
                  | apply List.mem_cons_of_mem)); (repeat (
                 first
                  | exact sget_here
                  | (apply sget_next; (
                   first
                    | assumption
                    | (apply Nq.en; assumption)
                    | omega
                    | (simp only [Nq] at *; omega))))); (
                first
                 | focus (simp; done)
                 | omega); (
                first
                 | rfl
                 | focus (simp; done)
                 | focus (exact List.take_of_length_le (by
                  first
                   | (simp; done)
                   | (simp; omega)))))
               | focus (apply Bor.le; apply VLe.of_eq; simp; done))))); done)
          | focus (apply Bor.le; apply VLe.of_eq; simp; done)))))
  · rintro x σ' ⟨r, rfl, rfl⟩
    refine ⟨NoF.own, ?_⟩
    simp only [List.mem_singleton, forall_eq]
    exact ints_noF
  rintro x σ' ⟨d5, rfl, rfl⟩ hd5
  rw [show ([1] : List Int).length = 1 from rfl]
  simp only [List.mem_cons, List.mem_singleton, List.not_mem_nil, or_false, forall_eq_or_imp, forall_eq, fresh_cons, fresh_nil, and_true, and_assoc] at hd5; (repeat (rcases hd5 with ⟨_, hd5⟩))
  (apply rs_sto; (first | (simp (disch := (first | (simp only [List.mem_cons, List.not_mem_nil, true_or, or_true, or_false]; done) | (focus (simp only [List.mem_cons, List.not_mem_nil, or_false, not_or]; (repeat' (first | apply And.intro | (first | assumption | (apply Nq.en; assumption) | omega | (simp only [Nq] at *; omega)))); done)) | omega)) only [↓put_σ, ↓mk_σ, AV.cells, sset, sdrop_none, sdrop_nil, sdrop_in, sdrop_out, List.nil_append, List.cons_append, List.append_nil, List.map_nil, List.map_cons, List.take_succ_cons, List.take_zero, List.drop_succ_cons, List.drop_zero, take_len', take_map_len, Nat.zero_add, Nat.add_zero, ofCell, ofConst]; rfl) | rfl))
  refine gy rfl rfl ?_; first | refine lo (lop_len_map (by first | exact E rfl | exact W rfl id)) rfl ?_ | refine lo (lop_len_ro (by first | exact E rfl | exact W rfl id)) rfl ?_ | refine lo (lop_len_own (by first | exact E rfl | exact W rfl id)) rfl ?_
  refine gy rfl rfl ?_; refine lo (lop_eql (by first | exact E rfl | exact W rfl id) (E rfl)) rfl ?_
  first | refine lo (lop_pick_t (E rfl) (by first | exact E rfl | exact W rfl (by simp))) rfl ?_ | refine lo (lop_pick_f (E rfl) (E rfl)) rfl ?_ | refine lo (lop_pick (E rfl) (by first | exact E rfl | exact W rfl (by simp)) (E rfl)) rfl ?_
  refine lo (lop_move (E rfl)) rfl ?_
  refine gy rfl rfl ?_; refine lo (lop_str (by repeat (first | exact PEvs.nil | (apply PEvs.cons; first | exact W rfl id | exact E rfl))) (by (first | (simp only [Value.cells, AV.cells, List.map_cons, List.map_nil, ofConst, ofCell]; rfl) | rfl)) (by repeat (first | exact Fill.nil | (apply Fill.cons; rfl; rfl; rfl; (repeat (first | exact Put.done | apply Put.put | apply Put.skip)))))) rfl ?_
  refine gy rfl rfl ?_
  refine cw [] Try.call12 (mem_new_no false 0 0 (.inl rfl)) rfl ?_ ?_ ?_
  · (repeat (first | exact ArgsLe.nil | (apply ArgsLe.cons; rfl; first | exact VLe.refl _ | exact VLe.when rfl | exact VLe.any | exact VLe.empty | exact VLe.of_eq (by simp))))
  · (first | exact no_mem | exact (fun _ h => h) | (apply StLe.mem; (repeat (first | exact StLe.nil | (apply StLe.cons; (repeat (first | exact List.mem_cons_self | apply List.mem_cons_of_mem)); first | rfl | focus (congr 1; done) | focus (simp; done) | (simp; rfl))))))
  rintro x σ' ⟨rfl, rfl⟩ -
  (apply rs_sto; (first | (simp (disch := (first | (simp only [List.mem_cons, List.not_mem_nil, true_or, or_true, or_false]; done) | (focus (simp only [List.mem_cons, List.not_mem_nil, or_false, not_or]; (repeat' (first | apply And.intro | (first | assumption | (apply Nq.en; assumption) | omega | (simp only [Nq] at *; omega)))); done)) | omega)) only [↓put_σ, ↓mk_σ, AV.cells, sset, sdrop_none, sdrop_nil, sdrop_in, sdrop_out, List.nil_append, List.cons_append, List.append_nil, List.map_nil, List.map_cons, List.take_succ_cons, List.take_zero, List.drop_succ_cons, List.drop_zero, take_len', take_map_len, Nat.zero_add, Nat.add_zero, ofCell, ofConst]; rfl) | rfl))
  refine gy rfl rfl ?_; first | refine lo (lop_peql (by first | exact E rfl | exact W rfl id) (E rfl) (.inl ⟨rfl, rfl⟩)) rfl ?_ | refine lo (lop_peql (by first | exact E rfl | exact W rfl id) (E rfl) (.inr (.inl ⟨⟨_, _, rfl⟩, rfl⟩))) rfl ?_ | refine lo (lop_peql (by first | exact E rfl | exact W rfl id) (E rfl) (.inr (.inr (.inl ⟨⟨_, _, _, rfl⟩, rfl⟩)))) rfl ?_ | refine lo (lop_peql (by first | exact E rfl | exact W rfl id) (E rfl) (.inr (.inr (.inr ⟨⟨_, _, _, _, rfl⟩, rfl⟩)))) rfl ?_
  first | refine lo (lop_pick_t (E rfl) (by first | exact E rfl | exact W rfl (by simp))) rfl ?_ | refine lo (lop_pick_f (E rfl) (E rfl)) rfl ?_ | refine lo (lop_pick (E rfl) (by first | exact E rfl | exact W rfl (by simp)) (E rfl)) rfl ?_
  refine lo (lop_assign (E rfl)) rfl ?_
  apply le; (repeat (first | (apply KeepIs.take; rfl) | (apply KeepIs.skip; rfl) | exact KeepIs.nil))
  (repeat (first | refine cs ?_ | refine cb ?_ | refine ck ?_ | refine cx ?_ | refine cr ?_ | refine an ?_ | refine ae ?_ | refine ar ?_ | refine bn ?_ | refine bh ?_ | refine be rfl ?_ | refine br ?_ | refine ct rfl ?_ | refine cf rfl ?_))
  (apply aend; (repeat (first | exact ResL.nil | (apply ResL.tmp; rfl) | (apply ResL.cell; rfl; infer_instance; rfl; (repeat (first | exact sget_here | (apply sget_next; (first | assumption | (apply Nq.en; assumption) | omega | (simp only [Nq] at *; omega))))); rfl) | (apply ResL.cells; rfl; infer_instance; infer_instance; rfl; (repeat (first | exact sget_here | (apply sget_next; (first | assumption | (apply Nq.en; assumption) | omega | (simp only [Nq] at *; omega))))); exact Nat.le_of_ble_eq_true rfl))))
  · exact ⟨rfl, rfl⟩
  · (first | exact no_mem | exact (fun _ h => h) | (apply StLe.mem; (repeat (first | exact StLe.nil | (apply StLe.cons; (repeat (first | exact List.mem_cons_self | apply List.mem_cons_of_mem)); first | rfl | focus (congr 1; done) | focus (simp; done) | (simp; rfl))))))
end Go.Proofs.Ytemehfolglcleaa
