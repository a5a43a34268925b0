/-
  Package mem: Grow, Page, SetPage, Dirty, New.
-/
import Derived.Test.YtemehfolglcleaaMemB
namespace Go.Proofs.Ytemehfolglcleaa
open Go.RowKit Go.ChangeShapes Go.WideShapes Go.ChangeAt Go.Deep
set_option linter.unusedSimpArgs false
set_option linter.unusedVariables false
attribute [local irreducible] SW RS RD AThen ABlock

def growL (dl : List Int) (p : Nat) : Nat → List Int
  | 0 => dl
  | k + 1 => touchL (growL dl p k) ((p + k : Nat) : Int)
theorem growL_sorted {dl : List Int} (hs : dl.Pairwise (· < ·)) (p : Nat) : ∀ k, (growL dl p k).Pairwise (· < ·)
  | 0 => hs
  | k + 1 => touchL_sorted (growL_sorted hs p k) _
theorem growL_len (dl : List Int) (p : Nat) : ∀ k, (growL dl p k).length ≤ dl.length + k
  | 0 => Nat.le_refl _
  | k + 1 => by
    have := touchL_len (growL dl p k) ((p + k : Nat) : Int)
    have := growL_len dl p k
    rw [growL]
    omega
theorem bytes_noF {l : List Nat} : ∀ e ∈ l.map encU, ∀ x ∈ e, NoF x := by
  intro e he x hx
  obtain ⟨b, _, rfl⟩ := List.mem_map.1 he
  obtain rfl := List.mem_singleton.1 hx
  exact .int
theorem ints_noF {l : List Int} : ∀ e ∈ l.map encI, ∀ x ∈ e, NoF x := by
  intro e he x hx
  obtain ⟨b, _, rfl⟩ := List.mem_map.1 he
  obtain rfl := List.mem_singleton.1 hx
  exact .int
section
variable {m q d : Nat}
set_option maxRecDepth 100000 in
theorem mem_grow_no (hN : Nq q m ∧ Nq d m ∧ Nq d q) (b : List Nat) (mo : Int) (dl : List Int) (hb : b.length ≤ 1000000) (hm0 : -1 ≤ mo) (hm1 : mo ≤ 1000000) (n : Int) (h' : n < 0 ∨ mo - ((b.length / 256 : Nat) : Int) < n) : SCall Try.prog 15 [.ptr m 0, .int .i64 n] [(m, .box 54 [.own q 0 (b).length, .int .i64 (mo), .own d 0 (dl).length]), (q, .arr 5 1 ((b).map encU)), (d, .arr 3 1 ((dl).map encI))]
    (fun y σ => y = .int .i64 (-1) ∧ σ = [(m, .box 54 [.own q 0 (b).length, .int .i64 (mo), .own d 0 (dl).length]), (q, .arr 5 1 ((b).map encU)), (d, .arr 3 1 ((dl).map encI))]) := by
  obtain ⟨hN1, hN2, hN3⟩ := hN
  refine scall_of (n := 43) (ks := [0, 1, 4, 5, 22, 25, 26, 27]) Try.func15 rfl rfl (Nat.le_of_ble_eq_true rfl) ?_
  (repeat (first | refine cs ?_ | refine cb ?_ | refine ck ?_ | refine cx ?_ | refine cr ?_ | refine an ?_ | refine ae ?_ | refine ar ?_ | refine bn ?_ | refine bh ?_ | refine be rfl ?_ | refine br ?_ | refine ct rfl ?_ | refine cf rfl ?_))
  first | refine sw_seq_region ?_ | refine sw_region ?_
  refine lo (lop_assign (E rfl)) rfl ?_
  apply le; (repeat (first | (apply KeepIs.take; rfl) | (apply KeepIs.skip; rfl) | exact KeepIs.nil))
  (repeat (first | refine cs ?_ | refine cb ?_ | refine ck ?_ | refine cx ?_ | refine cr ?_ | refine an ?_ | refine ae ?_ | refine ar ?_ | refine bn ?_ | refine bh ?_ | refine be rfl ?_ | refine br ?_ | refine ct rfl ?_ | refine cf rfl ?_))
  first | refine sw_seq_drawn [(0, true), (1, true), (2, true), (3, true), (4, true), (5, true), (6, true), (7, true), (8, true), (9, true), (10, true), (11, true), (12, true), (13, false), (14, true), (15, true), (16, true)] mixed (by kernel_rfl) (by kernel_rfl) ?_ | refine sw_region_drawn [(0, true), (1, true), (2, true), (3, true), (4, true), (5, true), (6, true), (7, true), (8, true), (9, true), (10, true), (11, true), (12, true), (13, false), (14, true), (15, true), (16, true)] mixed (by kernel_rfl) (by kernel_rfl) ?_
  refine dlo rfl (lop_move (E rfl)) rfl ?_
  first | refine dlo rfl (lop_peql (E rfl) (E rfl) (.inl ⟨rfl, rfl⟩)) rfl ?_ | refine dlo rfl (lop_peql (E rfl) (E rfl) (.inr (.inl ⟨⟨_, _, rfl⟩, rfl⟩))) rfl ?_ | refine dlo rfl (lop_peql (E rfl) (E rfl) (.inr (.inr (.inl ⟨⟨_, _, _, rfl⟩, rfl⟩)))) rfl ?_ | refine dlo rfl (lop_peql (E rfl) (E rfl) (.inr (.inr (.inr ⟨⟨_, _, _, _, rfl⟩, rfl⟩)))) rfl ?_
  refine dlo rfl (lop_move (E rfl)) rfl ?_
  first | refine dln rfl rfl rfl rfl rfl ?_ | refine dlg rfl rfl rfl (lop_move (E rfl)) rfl ?_
  first | refine dln rfl rfl rfl rfl rfl ?_ | refine dlg rfl rfl rfl (lop_lss (W rfl id) (E rfl)) rfl ?_
  first | refine dlo rfl (lop_pick_t (E rfl) (E rfl)) rfl ?_ | refine dlo rfl (lop_pick_f (E rfl) (W rfl (by simp))) rfl ?_ | refine dlo rfl (lop_pick (E rfl) (E rfl) (W rfl (by simp))) rfl ?_
  refine dlo rfl (lop_move (E rfl)) rfl ?_
  first | refine dln rfl rfl rfl rfl rfl ?_ | refine dlg rfl rfl rfl (lop_move (E rfl)) rfl ?_
  first | refine dln rfl rfl rfl rfl rfl ?_ | refine dlg rfl rfl rfl (lop_move (E rfl)) rfl ?_
  first | refine dln rfl rfl rfl rfl rfl ?_ | refine dlg rfl rfl rfl (lop_nilCheck (W rfl id) (.inl ⟨_, _, rfl⟩)) rfl ?_ | refine dlg rfl rfl rfl (lop_nilCheck (W rfl id) (.inr (.inl ⟨_, _, _, rfl⟩))) rfl ?_ | refine dlg rfl rfl rfl (lop_nilCheck (W rfl id) (.inr (.inr ⟨_, _, _, _, rfl⟩))) rfl ?_
  first | refine dln rfl rfl rfl rfl rfl ?_ | refine dlg rfl rfl rfl (lop_field_ptr (W rfl id) rfl (by decide)) rfl ?_ | refine dlg rfl rfl rfl (lop_field_el (W rfl id) rfl (by decide)) rfl ?_
  first | refine dln rfl rfl rfl rfl rfl ?_ | refine dlg rfl rfl rfl (lop_load_ptr (W rfl id) rfl (by repeat (first | exact sget_here | refine sget_next (by (first | assumption | (apply Nq.en; assumption) | omega | (simp only [Nq] at *; omega))) ?_)) (fun _ => rfl)) rfl ?_ | refine dlg rfl rfl rfl (lop_load_el (W rfl id) rfl (fun hc => by first | rfl | exact get_map (by assumption) | assumption | exact get_map (at_bang (by (try simp at hc) <;> omega))) (fun _ => rfl)) rfl ?_
  first | refine dln rfl rfl rfl rfl rfl ?_ | refine dlg rfl rfl rfl (lop_move (E rfl)) rfl ?_
  refine dpug [m, q, d] rfl rfl rfl Try.call16 (fun _ => mem_pages b mo dl hb) rfl ?_ (by repeat (first | exact NoF.int | exact NoF.bool | exact NoF.nilp | exact NoF.nil | exact NoF.own | exact NoF.ptr | exact NoF.str | exact nofl_nil | apply NoF.tup | apply NoF.agg | apply nofl_cons)) ?_
  · (repeat (
       first
        | exact ArgsIf.nil
        | (apply ArgsIf.cons; (
         first
          | exact W rfl id
          | exact W rfl (fun _ => rfl)
          | exact E rfl); (
         first
          | exact Bor.refl _
          | exact Bor.le VLe.any
          | exact Bor.le VLe.empty
          | (apply bown; (repeat (
            first
             | exact List.mem_cons_self
             | apply List.mem_cons_of_mem)); (repeat (
            first
             | exact sget_here
             | (apply sget_next; (
              first
               | assumption
               | (apply Nq.en; assumption)
               | omega
               | (simp only [Nq] at *; omega))))); (
           first
            | focus (simp; done)
            | omega
            | focus (simp; omega)); (
           first
            | rfl
            | focus (simp; done)
            | focus (exact List.take_of_length_le (by
             first
              | (simp; done)
              | (simp; omega)))))
          | focus (apply bbox; (repeat (
            first
             | exact List.mem_cons_self
             | apply List.mem_cons_of_mem)); (repeat (
            first
             | exact sget_here
             | (apply sget_next; (
              first
               | assumption
               | (apply Nq.en; assumption)
               | omega
               | (simp only [Nq] at *; omega))))); rfl; rfl; (repeat (
            first
             | exact BorL.nil
             | (apply BorL.cons; (
              first
               | exact Bor.refl _
               | exact Bor.le VLe.any
               | exact Bor.le VLe.empty
               | (apply bown; (repeat (
                 first
                  | exact List.mem_cons_self
                  | apply List.mem_cons_of_mem)); (repeat (
                 first
                  | exact sget_here
                  | (apply sget_next; (
                   first
                    | assumption
                    | (apply Nq.en; assumption)
                    | omega
                    | (simp only [Nq] at *; omega))))); (
                first
                 | focus (simp; done)
                 | omega); (
                first
                 | rfl
                 | focus (simp; done)
                 | focus (exact List.take_of_length_le (by
                  first
                   | (simp; done)
                   | (simp; omega)))))
               | focus (apply Bor.le; apply VLe.of_eq; simp; done))))); done)
          | focus (apply bagg; (repeat (
            first
             | exact BorL.nil
             | (apply BorL.cons; (
              first
               | exact Bor.refl _
               | exact Bor.le VLe.any
               | exact Bor.le VLe.empty
               | (apply bown; (repeat (
                 first
                  | exact List.mem_cons_self
                  | apply List.mem_cons_of_mem)); (repeat (
                 first
                  | exact sget_here
                  | (apply sget_next; (
                   first
                    | assumption
                    | (apply Nq.en; assumption)
                    | omega
                    | (simp only [Nq] at *; omega))))); (
                first
                 | focus (simp; done)
                 | omega); (
                first
                 | rfl
                 | focus (simp; done)
                 | focus (exact List.take_of_length_le (by
                  first
                   | (simp; done)
                   | (simp; omega)))))
               | focus (apply Bor.le; apply VLe.of_eq; simp; done))))); done)
          | focus (apply Bor.le; apply VLe.of_eq; simp; done)))))
  first | refine dln rfl rfl rfl rfl rfl ?_ | refine dlg rfl rfl rfl (lop_sub64 (W rfl id) (by first | exact W rfl id | exact E rfl) (by omega) (by omega)) rfl ?_ | refine dlg rfl rfl rfl (lop_sub64c (W rfl id) (by first | exact W rfl id | exact E rfl) (fun hc => by simp at hc <;> first | omega | (have hov := hov hc; omega))) rfl ?_ | refine dlg rfl rfl rfl (lop_sub (W rfl id) (by first | exact W rfl id | exact E rfl)) rfl ?_
  first | refine dln rfl rfl rfl rfl rfl ?_ | refine dlg rfl rfl rfl (lop_gtr (W rfl id) (W rfl id)) rfl ?_
  first | refine dlo rfl (lop_pick_t (E rfl) (E rfl)) rfl ?_ | refine dlo rfl (lop_pick_f (E rfl) (W rfl (by simp))) rfl ?_ | refine dlo rfl (lop_pick (E rfl) (E rfl) (W rfl (by simp))) rfl ?_
  apply de; (repeat (first | (apply KeepIs.take; rfl) | (apply KeepIs.skip; rfl) | exact KeepIs.nil))
  (repeat (first | refine cs ?_ | refine cb ?_ | refine ck ?_ | refine cx ?_ | refine cr ?_ | refine an ?_ | refine ae ?_ | refine ar ?_ | refine bn ?_ | refine bh ?_ | refine be rfl ?_ | refine br ?_ | refine ct rfl ?_ | refine cf rfl ?_))
  have hc : (if decide (n < 0) = true then true else decide (mo - ((b.length / 256 : Nat) : Int) < n)) = true := by
    rcases h' with h | h
    · simp [h]
    · rw [decide_eq_true h]; simp
  rw [hc]
  (repeat (first | refine cs ?_ | refine cb ?_ | refine ck ?_ | refine cx ?_ | refine cr ?_ | refine an ?_ | refine ae ?_ | refine ar ?_ | refine bn ?_ | refine bh ?_ | refine be rfl ?_ | refine br ?_ | refine ct rfl ?_ | refine cf rfl ?_))
  first | refine sw_seq_region ?_ | refine sw_region ?_
  refine lo (lop_assign (E rfl)) rfl ?_
  apply le; (repeat (first | (apply KeepIs.take; rfl) | (apply KeepIs.skip; rfl) | exact KeepIs.nil))
  (repeat (first | refine cs ?_ | refine cb ?_ | refine ck ?_ | refine cx ?_ | refine cr ?_ | refine an ?_ | refine ae ?_ | refine ar ?_ | refine bn ?_ | refine bh ?_ | refine be rfl ?_ | refine br ?_ | refine ct rfl ?_ | refine cf rfl ?_))
  (apply aend; (repeat (first | exact ResL.nil | (apply ResL.tmp; rfl) | (apply ResL.cell; rfl; infer_instance; rfl; (repeat (first | exact sget_here | (apply sget_next; (first | assumption | (apply Nq.en; assumption) | omega | (simp only [Nq] at *; omega))))); rfl) | (apply ResL.cells; rfl; infer_instance; infer_instance; rfl; (repeat (first | exact sget_here | (apply sget_next; (first | assumption | (apply Nq.en; assumption) | omega | (simp only [Nq] at *; omega))))); exact Nat.le_of_ble_eq_true rfl))))
  · exact ⟨rfl, rfl⟩
  · (first | exact no_mem | exact (fun _ h => h) | (apply StLe.mem; (repeat (first | exact StLe.nil | (apply StLe.cons; (repeat (first | exact List.mem_cons_self | apply List.mem_cons_of_mem)); first | rfl | focus (congr 1; done) | focus (simp; done) | (simp; rfl))))))
theorem div_grow (x k : Nat) : (x + 256 * (k + 1)) / 256 - 1 = (x + 256 * k) / 256 := by omega
set_option maxRecDepth 100000 in
theorem mem_grow (hN : Nq q m ∧ Nq d m ∧ Nq d q) (b : List Nat) (mo : Int) (dl : List Int) (hb : b.length ≤ 100000) (hdl : dl.length ≤ 10000) (hs : dl.Pairwise (· < ·)) (hm1 : mo ≤ 1000) (n : Nat) (h' : (n : Int) ≤ mo - ((b.length / 256 : Nat) : Int)) : SCall Try.prog 15 [.ptr m 0, .int .i64 n] [(m, .box 54 [.own q 0 (b).length, .int .i64 (mo), .own d 0 (dl).length]), (q, .arr 5 1 ((b).map encU)), (d, .arr 3 1 ((dl).map encI))]
    (fun y σ => ∃ q' d', (Nq q' m ∧ Nq d' m ∧ Nq d' q') ∧ y = .int .i64 ((b.length / 256 : Nat) : Int) ∧ σ = [(m, .box 54 [.own q' 0 (b ++ List.replicate (256 * n) 0).length, .int .i64 (mo), .own d' 0 (growL dl (b.length / 256) n).length]), (q', .arr 5 1 ((b ++ List.replicate (256 * n) 0).map encU)), (d', .arr 3 1 ((growL dl (b.length / 256) n).map encI))]) := by
  obtain ⟨hN1, hN2, hN3⟩ := hN
  have hm0 : -1 ≤ mo := by omega
  refine scall_of (n := 43) (ks := [0, 1, 4, 5, 22, 25, 26, 27]) Try.func15 rfl rfl (Nat.le_of_ble_eq_true rfl) ?_
  (repeat (first | refine cs ?_ | refine cb ?_ | refine ck ?_ | refine cx ?_ | refine cr ?_ | refine an ?_ | refine ae ?_ | refine ar ?_ | refine bn ?_ | refine bh ?_ | refine be rfl ?_ | refine br ?_ | refine ct rfl ?_ | refine cf rfl ?_))
  first | refine sw_seq_region ?_ | refine sw_region ?_
  refine lo (lop_assign (E rfl)) rfl ?_
  apply le; (repeat (first | (apply KeepIs.take; rfl) | (apply KeepIs.skip; rfl) | exact KeepIs.nil))
  (repeat (first | refine cs ?_ | refine cb ?_ | refine ck ?_ | refine cx ?_ | refine cr ?_ | refine an ?_ | refine ae ?_ | refine ar ?_ | refine bn ?_ | refine bh ?_ | refine be rfl ?_ | refine br ?_ | refine ct rfl ?_ | refine cf rfl ?_))
  first | refine sw_seq_drawn [(0, true), (1, true), (2, true), (3, true), (4, true), (5, true), (6, true), (7, true), (8, true), (9, true), (10, true), (11, true), (12, true), (13, false), (14, true), (15, true), (16, true)] mixed (by kernel_rfl) (by kernel_rfl) ?_ | refine sw_region_drawn [(0, true), (1, true), (2, true), (3, true), (4, true), (5, true), (6, true), (7, true), (8, true), (9, true), (10, true), (11, true), (12, true), (13, false), (14, true), (15, true), (16, true)] mixed (by kernel_rfl) (by kernel_rfl) ?_
  refine dlo rfl (lop_move (E rfl)) rfl ?_
  first | refine dlo rfl (lop_peql (E rfl) (E rfl) (.inl ⟨rfl, rfl⟩)) rfl ?_ | refine dlo rfl (lop_peql (E rfl) (E rfl) (.inr (.inl ⟨⟨_, _, rfl⟩, rfl⟩))) rfl ?_ | refine dlo rfl (lop_peql (E rfl) (E rfl) (.inr (.inr (.inl ⟨⟨_, _, _, rfl⟩, rfl⟩)))) rfl ?_ | refine dlo rfl (lop_peql (E rfl) (E rfl) (.inr (.inr (.inr ⟨⟨_, _, _, _, rfl⟩, rfl⟩)))) rfl ?_
  refine dlo rfl (lop_move (E rfl)) rfl ?_
  first | refine dln rfl rfl rfl rfl rfl ?_ | refine dlg rfl rfl rfl (lop_move (E rfl)) rfl ?_
  first | refine dln rfl rfl rfl rfl rfl ?_ | refine dlg rfl rfl rfl (lop_lss (W rfl id) (E rfl)) rfl ?_
  first | refine dlo rfl (lop_pick_t (E rfl) (E rfl)) rfl ?_ | refine dlo rfl (lop_pick_f (E rfl) (W rfl (by simp))) rfl ?_ | refine dlo rfl (lop_pick (E rfl) (E rfl) (W rfl (by simp))) rfl ?_
  refine dlo rfl (lop_move (E rfl)) rfl ?_
  first | refine dln rfl rfl rfl rfl rfl ?_ | refine dlg rfl rfl rfl (lop_move (E rfl)) rfl ?_
  first | refine dln rfl rfl rfl rfl rfl ?_ | refine dlg rfl rfl rfl (lop_move (E rfl)) rfl ?_
  first | refine dln rfl rfl rfl rfl rfl ?_ | refine dlg rfl rfl rfl (lop_nilCheck (W rfl id) (.inl ⟨_, _, rfl⟩)) rfl ?_ | refine dlg rfl rfl rfl (lop_nilCheck (W rfl id) (.inr (.inl ⟨_, _, _, rfl⟩))) rfl ?_ | refine dlg rfl rfl rfl (lop_nilCheck (W rfl id) (.inr (.inr ⟨_, _, _, _, rfl⟩))) rfl ?_
  first | refine dln rfl rfl rfl rfl rfl ?_ | refine dlg rfl rfl rfl (lop_field_ptr (W rfl id) rfl (by decide)) rfl ?_ | refine dlg rfl rfl rfl (lop_field_el (W rfl id) rfl (by decide)) rfl ?_
  first | refine dln rfl rfl rfl rfl rfl ?_ | refine dlg rfl rfl rfl (lop_load_ptr (W rfl id) rfl (by repeat (first | exact sget_here | refine sget_next (by (first | assumption | (apply Nq.en; assumption) | omega | (simp only [Nq] at *; omega))) ?_)) (fun _ => rfl)) rfl ?_ | refine dlg rfl rfl rfl (lop_load_el (W rfl id) rfl (fun hc => by first | rfl | exact get_map (by assumption) | assumption | exact get_map (at_bang (by (try simp at hc) <;> omega))) (fun _ => rfl)) rfl ?_
  first | refine dln rfl rfl rfl rfl rfl ?_ | refine dlg rfl rfl rfl (lop_move (E rfl)) rfl ?_
  refine dpug [m, q, d] rfl rfl rfl Try.call16 (fun _ => mem_pages b mo dl (by omega)) rfl ?_ (by repeat (first | exact NoF.int | exact NoF.bool | exact NoF.nilp | exact NoF.nil | exact NoF.own | exact NoF.ptr | exact NoF.str | exact nofl_nil | apply NoF.tup | apply NoF.agg | apply nofl_cons)) ?_
  · (repeat (
       first
        | exact ArgsIf.nil
        | (apply ArgsIf.cons; (
         first
          | exact W rfl id
          | exact W rfl (fun _ => rfl)
          | exact E rfl); (
         first
          | exact Bor.refl _
          | exact Bor.le VLe.any
          | exact Bor.le VLe.empty
          | (apply bown; (repeat (
            first
             | exact List.mem_cons_self
             | apply List.mem_cons_of_mem)); (repeat (
            first
             | exact sget_here
             | (apply sget_next; (
              first
               | assumption
               | (apply Nq.en; assumption)
               | omega
               | (simp only [Nq] at *; omega))))); (
           first
            | focus (simp; done)
            | omega
            | focus (simp; omega)); (
           first
            | rfl
            | focus (simp; done)
            | focus (exact List.take_of_length_le (by
             first
              | (simp; done)
              | (simp; omega)))))
          | focus (apply bbox; (repeat (
            first
             | exact List.mem_cons_self
             | apply List.mem_cons_of_mem)); (repeat (
            first
             | exact sget_here
             | (apply sget_next; (
              first
               | assumption
               | (apply Nq.en; assumption)
               | omega
               | (simp only [Nq] at *; omega))))); rfl; rfl; (repeat (
            first
             | exact BorL.nil
             | (apply BorL.cons; (
              first
               | exact Bor.refl _
               | exact Bor.le VLe.any
               | exact Bor.le VLe.empty
               | (apply bown; (repeat (
                 first
                  | exact List.mem_cons_self
                  | apply List.mem_cons_of_mem)); (repeat (
                 first
                  | exact sget_here
                  | (apply sget_next; (
                   first
                    | assumption
                    | (apply Nq.en; assumption)
                    | omega
                    | (simp only [Nq] at *; omega))))); (
                first
                 | focus (simp; done)
                 | omega); (
                first
                 | rfl
                 | focus (simp; done)
                 | focus (exact List.take_of_length_le (by
                  first
                   | (simp; done)
                   | (simp; omega)))))
               | focus (apply Bor.le; apply VLe.of_eq; simp; done))))); done)
          | focus (apply bagg; (repeat (
            first
             | exact BorL.nil
             | (apply BorL.cons; (
              first
               | exact Bor.refl _
               | exact Bor.le VLe.any
               | exact Bor.le VLe.empty
               | (apply bown; (repeat (
                 first
                  | exact List.mem_cons_self
                  | apply List.mem_cons_of_mem)); (repeat (
                 first
                  | exact sget_here
                  | (apply sget_next; (
                   first
                    | assumption
                    | (apply Nq.en; assumption)
                    | omega
                    | (simp only [Nq] at *; omega))))); (
                first
                 | focus (simp; done)
                 | omega); (
                first
                 | rfl
                 | focus (simp; done)
                 | focus (exact List.take_of_length_le (by
                  first
                   | (simp; done)
                   | (simp; omega)))))
               | focus (apply Bor.le; apply VLe.of_eq; simp; done))))); done)
          | focus (apply Bor.le; apply VLe.of_eq; simp; done)))))
  first | refine dln rfl rfl rfl rfl rfl ?_ | refine dlg rfl rfl rfl (lop_sub64 (W rfl id) (by first | exact W rfl id | exact E rfl) (by omega) (by omega)) rfl ?_ | refine dlg rfl rfl rfl (lop_sub64c (W rfl id) (by first | exact W rfl id | exact E rfl) (fun hc => by simp at hc <;> first | omega | (have hov := hov hc; omega))) rfl ?_ | refine dlg rfl rfl rfl (lop_sub (W rfl id) (by first | exact W rfl id | exact E rfl)) rfl ?_
  first | refine dln rfl rfl rfl rfl rfl ?_ | refine dlg rfl rfl rfl (lop_gtr (W rfl id) (W rfl id)) rfl ?_
  first | refine dlo rfl (lop_pick_t (E rfl) (E rfl)) rfl ?_ | refine dlo rfl (lop_pick_f (E rfl) (W rfl (by simp))) rfl ?_ | refine dlo rfl (lop_pick (E rfl) (E rfl) (W rfl (by simp))) rfl ?_
  apply de; (repeat (first | (apply KeepIs.take; rfl) | (apply KeepIs.skip; rfl) | exact KeepIs.nil))
  (repeat (first | refine cs ?_ | refine cb ?_ | refine ck ?_ | refine cx ?_ | refine cr ?_ | refine an ?_ | refine ae ?_ | refine ar ?_ | refine bn ?_ | refine bh ?_ | refine be rfl ?_ | refine br ?_ | refine ct rfl ?_ | refine cf rfl ?_))
  rw [show decide (mo - ((b.length / 256 : Nat) : Int) < n) = false from decide_eq_false (by omega)]
  (repeat (first | refine cs ?_ | refine cb ?_ | refine ck ?_ | refine cx ?_ | refine cr ?_ | refine an ?_ | refine ae ?_ | refine ar ?_ | refine bn ?_ | refine bh ?_ | refine be rfl ?_ | refine br ?_ | refine ct rfl ?_ | refine cf rfl ?_))
  first | refine sw_seq_region ?_ | refine sw_region ?_
  refine lo (lop_move (E rfl)) rfl ?_
  refine pu [m, q, d] Try.call16 (mem_pages b mo dl (by omega)) rfl ?_ (by repeat (first | exact NoF.int | exact NoF.bool | exact NoF.nilp | exact NoF.nil | exact NoF.own | exact NoF.ptr | exact NoF.str | exact nofl_nil | apply NoF.tup | apply NoF.agg | apply nofl_cons)) ?_
  · (repeat (
       first
        | exact ArgsIf.nil
        | (apply ArgsIf.cons; (
         first
          | exact W rfl id
          | exact W rfl (fun _ => rfl)
          | exact E rfl); (
         first
          | exact Bor.refl _
          | exact Bor.le VLe.any
          | exact Bor.le VLe.empty
          | (apply bown; (repeat (
            first
             | exact List.mem_cons_self
             | apply List.mem_cons_of_mem)); (repeat (
            first
             | exact sget_here
             | (apply sget_next; (
              first
               | assumption
               | (apply Nq.en; assumption)
               | omega
               | (simp only [Nq] at *; omega))))); (
           first
            | focus (simp; done)
            | omega
            | focus (simp; omega)); (
           first
            | rfl
            | focus (simp; done)
            | focus (exact List.take_of_length_le (by
             first
              | (simp; done)
              | (simp; omega)))))
          | focus (apply bbox; (repeat (
            first
             | exact List.mem_cons_self
             | apply List.mem_cons_of_mem)); (repeat (
            first
             | exact sget_here
             | (apply sget_next; (
              first
               | assumption
               | (apply Nq.en; assumption)
               | omega
               | (simp only [Nq] at *; omega))))); rfl; rfl; (repeat (
            first
             | exact BorL.nil
             | (apply BorL.cons; (
              first
               | exact Bor.refl _
               | exact Bor.le VLe.any
               | exact Bor.le VLe.empty
               | (apply bown; (repeat (
                 first
                  | exact List.mem_cons_self
                  | apply List.mem_cons_of_mem)); (repeat (
                 first
                  | exact sget_here
                  | (apply sget_next; (
                   first
                    | assumption
                    | (apply Nq.en; assumption)
                    | omega
                    | (simp only [Nq] at *; omega))))); (
                first
                 | focus (simp; done)
                 | omega); (
                first
                 | rfl
                 | focus (simp; done)
                 | focus (exact List.take_of_length_le (by
                  first
                   | (simp; done)
                   | (simp; omega)))))
               | focus (apply Bor.le; apply VLe.of_eq; simp; done))))); done)
          | focus (apply bagg; (repeat (
            first
             | exact BorL.nil
             | (apply BorL.cons; (
              first
               | exact Bor.refl _
               | exact Bor.le VLe.any
               | exact Bor.le VLe.empty
               | (apply bown; (repeat (
                 first
                  | exact List.mem_cons_self
                  | apply List.mem_cons_of_mem)); (repeat (
                 first
                  | exact sget_here
                  | (apply sget_next; (
                   first
                    | assumption
                    | (apply Nq.en; assumption)
                    | omega
                    | (simp only [Nq] at *; omega))))); (
                first
                 | focus (simp; done)
                 | omega); (
                first
                 | rfl
                 | focus (simp; done)
                 | focus (exact List.take_of_length_le (by
                  first
                   | (simp; done)
                   | (simp; omega)))))
               | focus (apply Bor.le; apply VLe.of_eq; simp; done))))); done)
          | focus (apply Bor.le; apply VLe.of_eq; simp; done)))))
  refine lo (lop_assign (E rfl)) rfl ?_
  apply le; (repeat (first | (apply KeepIs.take; rfl) | (apply KeepIs.skip; rfl) | exact KeepIs.nil))
  (repeat (first | refine cs ?_ | refine cb ?_ | refine ck ?_ | refine cx ?_ | refine cr ?_ | refine an ?_ | refine ae ?_ | refine ar ?_ | refine bn ?_ | refine bh ?_ | refine be rfl ?_ | refine br ?_ | refine ct rfl ?_ | refine cf rfl ?_))
  first | refine sw_seq_region ?_ | refine sw_region ?_
  refine lo (lop_move (E rfl)) rfl ?_
  refine lo (lop_move (E rfl)) rfl ?_
  apply le; (repeat (first | (apply KeepIs.take; rfl) | (apply KeepIs.skip; rfl) | exact KeepIs.nil))
  (repeat (first | refine cs ?_ | refine cb ?_ | refine ck ?_ | refine cx ?_ | refine cr ?_ | refine an ?_ | refine ae ?_ | refine ar ?_ | refine bn ?_ | refine bh ?_ | refine be rfl ?_ | refine br ?_ | refine ct rfl ?_ | refine cf rfl ?_))
  have hbn : ∀ k, (b ++ List.replicate (256 * k) 0).length = b.length + 256 * k := fun k => by simp
  refine lp (β := Nat × Nat × Nat) (fun x => ⟨[(0, .ptr m 0), (1, .int .i64 n), (5, .int .i64 ((b.length / 256 : Nat) : Int)), (25, .int .i64 n), (26, .int .i64 x.1)], [(m, .box 54 [.own x.2.1 0 (b ++ List.replicate (256 * x.1) 0).length, .int .i64 (mo), .own x.2.2 0 (growL dl (b.length / 256) x.1).length]), (x.2.1, .arr 5 1 ((b ++ List.replicate (256 * x.1) 0).map encU)), (x.2.2, .arr 3 1 ((growL dl (b.length / 256) x.1).map encI))]⟩) (fun x => x.1 ≤ n ∧ Nq x.2.1 m ∧ Nq x.2.2 m ∧ Nq x.2.2 x.2.1) (fun x => n - x.1) (0, q, d) ?_ ⟨Nat.zero_le _, hN1, hN2, hN3⟩ ?_
  · rw [show growL dl (b.length / 256) 0 = dl from rfl, show b ++ List.replicate (256 * 0) 0 = b by simp]
    (refine sgo_st ?_ ?_ <;> (repeat (first | exact FrLe.nil | (apply FrLe.cons; rfl; first | exact VLe.refl _ | exact VLe.any | exact VLe.empty | exact VLe.of_eq (by simp) | exact VLe.of_eq (by congr 1; omega)) | exact StLe.nil | exact StLe.refl _ | (apply StLe.cons; (repeat (first | exact List.mem_cons_self | apply List.mem_cons_of_mem)); first | rfl | focus (congr 1; done) | focus (simp; done) | (simp; rfl)))))
  rintro ⟨k, q1, d1⟩ ⟨hk, hM1, hM2, hM3⟩
  simp only at hk hM1 hM2 hM3 ⊢
  (repeat (first | refine cs ?_ | refine cb ?_ | refine ck ?_ | refine cx ?_ | refine cr ?_ | refine an ?_ | refine ae ?_ | refine ar ?_ | refine bn ?_ | refine bh ?_ | refine be rfl ?_ | refine br ?_ | refine ct rfl ?_ | refine cf rfl ?_))
  first | refine sw_seq_region ?_ | refine sw_region ?_
  refine lo (lop_lss (E rfl) (E rfl)) rfl ?_
  apply le; (repeat (first | (apply KeepIs.take; rfl) | (apply KeepIs.skip; rfl) | exact KeepIs.nil))
  (repeat (first | refine cs ?_ | refine cb ?_ | refine ck ?_ | refine cx ?_ | refine cr ?_ | refine an ?_ | refine ae ?_ | refine ar ?_ | refine bn ?_ | refine bh ?_ | refine be rfl ?_ | refine br ?_ | refine ct rfl ?_ | refine cf rfl ?_))
  refine sw_cond rfl (fun h2 => ?_) (fun h2 => ?_)
  · have hlt : k < n := by simp at h2; omega
    have hl1 := hbn k
    have hgl := growL_len dl (b.length / 256) k
    have hgs := growL_sorted hs (b.length / 256) k
    have hp := div_grow b.length k
    (repeat (first | refine cs ?_ | refine cb ?_ | refine ck ?_ | refine cx ?_ | refine cr ?_ | refine an ?_ | refine ae ?_ | refine ar ?_ | refine bn ?_ | refine bh ?_ | refine be rfl ?_ | refine br ?_ | refine ct rfl ?_ | refine cf rfl ?_))
    first | refine sw_seq_region ?_ | refine sw_region ?_
    refine lo (lop_move (E rfl)) rfl ?_
    refine lo (lop_move (E rfl)) rfl ?_
    first | refine lo (lop_nilCheck (E rfl) (.inl ⟨_, _, rfl⟩)) rfl ?_ | refine lo (lop_nilCheck (E rfl) (.inr (.inl ⟨_, _, _, rfl⟩))) rfl ?_ | refine lo (lop_nilCheck (E rfl) (.inr (.inr ⟨_, _, _, _, rfl⟩))) rfl ?_
    first | refine lo (lop_field_ptr (E rfl) rfl (by decide)) rfl ?_ | refine lo (lop_field_el (E rfl) rfl (by decide)) rfl ?_
    first | refine lo (lop_load_ptr (E rfl) rfl (by repeat (first | exact sget_here | refine sget_next (by (first | assumption | (apply Nq.en; assumption) | omega | (simp only [Nq] at *; omega))) ?_)) (fun _ => rfl)) rfl ?_ | refine lo (lop_load_el (E rfl) rfl (fun hc => by first | rfl | exact get_map (by assumption) | assumption | exact get_map (at_bang (by omega))) (fun _ => rfl)) rfl ?_
    apply apz (k := 256) (es' := (b ++ List.replicate (256 * (k + 1)) 0).map encU) (len' := (b ++ List.replicate (256 * (k + 1)) 0).length); rfl; rfl; rfl; rfl; (repeat (first | exact sget_here | (apply sget_next; (first | assumption | (apply Nq.en; assumption) | omega | (simp only [Nq] at *; omega)))))
    · simp
    · rfl
    · rfl
    · decide
    · rw [show 256 * (k + 1) = 256 * k + 256 by omega, ← List.replicate_append_replicate, ← List.append_assoc, List.map_append (l₁ := b ++ _)]; rfl
    · rw [hbn, hbn]; omega
    · rw [hbn]; simp [maxLen]; omega
    · rw [hbn]; omega
    · rfl
    intro r33 h33; simp (disch := (first | (simp only [List.mem_cons, List.not_mem_nil, true_or, or_true, or_false]; done) | (focus (simp only [List.mem_cons, List.not_mem_nil, or_false, not_or]; (repeat' (first | apply And.intro | (first | assumption | (apply Nq.en; assumption) | omega | (simp only [Nq] at *; omega)))); done)) | omega)) only [fresh_cons, fresh_nil, and_true, sdrop_none, sdrop_nil, sdrop_in, sdrop_out] at h33; (repeat (rcases h33 with ⟨_, h33⟩)); apply Exists.intro; apply And.intro; (repeat (first | (apply SSet.here; (repeat (first | exact Fresh.nil | (apply Fresh.cons; (first | assumption | (apply Nq.en; assumption) | omega | (simp only [Nq] at *; omega)))))) | (apply SSet.next; (first | assumption | (apply Nq.en; assumption) | omega | (simp only [Nq] at *; omega)))))
    first | refine lo (lop_nilCheck (E rfl) (.inl ⟨_, _, rfl⟩)) rfl ?_ | refine lo (lop_nilCheck (E rfl) (.inr (.inl ⟨_, _, _, rfl⟩))) rfl ?_ | refine lo (lop_nilCheck (E rfl) (.inr (.inr ⟨_, _, _, _, rfl⟩))) rfl ?_
    first | refine lo (lop_field_ptr (E rfl) rfl (by decide)) rfl ?_ | refine lo (lop_field_el (E rfl) rfl (by decide)) rfl ?_
    apply stp; rfl; rfl; rfl; rfl; (repeat (first | (apply SPut.here; (repeat (first | exact Put.done | apply Put.put | apply Put.skip)); (repeat (first | exact Fresh.nil | (apply Fresh.cons; (first | assumption | (apply Nq.en; assumption) | omega | (simp only [Nq] at *; omega)))))) | (apply SPut.next; (first | assumption | (apply Nq.en; assumption) | omega | (simp only [Nq] at *; omega)))))
    apply le; (repeat (first | (apply KeepIs.take; rfl) | (apply KeepIs.skip; rfl) | exact KeepIs.nil))
    (repeat (first | refine cs ?_ | refine cb ?_ | refine ck ?_ | refine cx ?_ | refine cr ?_ | refine an ?_ | refine ae ?_ | refine ar ?_ | refine bn ?_ | refine bh ?_ | refine be rfl ?_ | refine br ?_ | refine ct rfl ?_ | refine cf rfl ?_))
    first | refine sw_seq_region ?_ | refine sw_region ?_
    refine lo (lop_move (E rfl)) rfl ?_
    refine lo (lop_move (E rfl)) rfl ?_
    refine pu [m, r33, d1] Try.call16 (mem_pages (b ++ List.replicate (256 * (k + 1)) 0) mo (growL dl (b.length / 256) k) (by rw [hbn]; omega)) rfl ?_ (by repeat (first | exact NoF.int | exact NoF.bool | exact NoF.nilp | exact NoF.nil | exact NoF.own | exact NoF.ptr | exact NoF.str | exact nofl_nil | apply NoF.tup | apply NoF.agg | apply nofl_cons)) ?_
    · (repeat (
         first
          | exact ArgsIf.nil
          | (apply ArgsIf.cons; (
           first
            | exact W rfl id
            | exact W rfl (fun _ => rfl)
            | exact E rfl); (
           first
            | exact Bor.refl _
            | exact Bor.le VLe.any
            | exact Bor.le VLe.empty
            | (apply bown; (repeat (
              first
               | exact List.mem_cons_self
               | apply List.mem_cons_of_mem)); (repeat (
              first
               | exact sget_here
               | (apply sget_next; (
                first
                 | assumption
                 | (apply Nq.en; assumption)
                 | omega
                 | (simp only [Nq] at *; omega))))); (
             first
              | focus (simp; done)
              | omega
              | focus (simp; omega)); (
             first
              | rfl
              | focus (simp; done)
              | focus (exact List.take_of_length_le (by
               first
                | (simp; done)
                | (simp; omega)))))
            | focus (apply bbox; (repeat (
              first
               | exact List.mem_cons_self
               | apply List.mem_cons_of_mem)); (repeat (
              first
               | exact sget_here
               | (apply sget_next; (
                first
                 | assumption
                 | (apply Nq.en; assumption)
                 | omega
                 | (simp only [Nq] at *; omega))))); rfl; rfl; (repeat (
              first
               | exact BorL.nil
               | (apply BorL.cons; (
                first
                 | exact Bor.refl _
                 | exact Bor.le VLe.any
                 | exact Bor.le VLe.empty
                 | (apply bown; (repeat (
                   first
                    | exact List.mem_cons_self
                    | apply List.mem_cons_of_mem)); (repeat (
                   first
                    | exact sget_here
                    | (apply sget_next; (
                     first
                      | assumption
                      | (apply Nq.en; assumption)
                      | omega
                      | (simp only [Nq] at *; omega))))); (
                  first
                   | focus (simp; done)
                   | omega); (
                  first
                   | rfl
                   | focus (simp; done)
                   | focus (exact List.take_of_length_le (by
                    first
                     | (simp; done)
                     | (simp; omega)))))
                 | focus (apply Bor.le; apply VLe.of_eq; simp; done))))); done)
            | focus (apply bagg; (repeat (
              first
               | exact BorL.nil
               | (apply BorL.cons; (
                first
                 | exact Bor.refl _
                 | exact Bor.le VLe.any
                 | exact Bor.le VLe.empty
                 | (apply bown; (repeat (
                   first
                    | exact List.mem_cons_self
                    | apply List.mem_cons_of_mem)); (repeat (
                   first
                    | exact sget_here
                    | (apply sget_next; (
                     first
                      | assumption
                      | (apply Nq.en; assumption)
                      | omega
                      | (simp only [Nq] at *; omega))))); (
                  first
                   | focus (simp; done)
                   | omega); (
                  first
                   | rfl
                   | focus (simp; done)
                   | focus (exact List.take_of_length_le (by
                    first
                     | (simp; done)
                     | (simp; omega)))))
                 | focus (apply Bor.le; apply VLe.of_eq; simp; done))))); done)
            | focus (apply Bor.le; apply VLe.of_eq; simp; done)))))
    rw [hbn]
    first | refine lo (lop_sub64 (E rfl) (E rfl) (by omega) (by omega)) rfl ?_ | refine lo (lop_sub (E rfl) (E rfl)) rfl ?_
    rw [show (((b.length + 256 * (k + 1)) / 256 : Nat) : Int) - 1 = ((b.length / 256 + k : Nat) : Int) by omega]
    refine cw [(m, .box 54 [.own r33 0 (b ++ List.replicate (256 * (k + 1)) 0).length, .int .i64 (mo), .own d1 0 (growL dl (b.length / 256) k).length]), (r33, .arr 5 1 ((b ++ List.replicate (256 * (k + 1)) 0).map encU)), (d1, .arr 3 1 ((growL dl (b.length / 256) k).map encI))] Try.call23 (mem_touch ⟨by (first | assumption | (apply Nq.en; assumption) | omega | (simp only [Nq] at *; omega)), by (first | assumption | (apply Nq.en; assumption) | omega | (simp only [Nq] at *; omega)), by (first | assumption | (apply Nq.en; assumption) | omega | (simp only [Nq] at *; omega))⟩ _ mo _ (by omega) hgs ((b.length / 256 + k : Nat) : Int)) rfl ?_ ?_ ?_
    · (repeat (first | exact ArgsLe.nil | (apply ArgsLe.cons; rfl; first | exact VLe.refl _ | exact VLe.when rfl | exact VLe.any | exact VLe.empty | exact VLe.of_eq (by simp))))
    · (first | exact no_mem | exact (fun _ h => h) | (apply StLe.mem; (repeat (first | exact StLe.nil | (apply StLe.cons; (repeat (first | exact List.mem_cons_self | apply List.mem_cons_of_mem)); first | rfl | focus (congr 1; done) | focus (simp; done) | (simp; rfl))))))
    rintro y σ' ⟨e, ⟨he1, he2⟩, rfl⟩ -
    (apply rs_sto; (first | (simp (disch := (first | (simp only [List.mem_cons, List.not_mem_nil, true_or, or_true, or_false]; done) | (focus (simp only [List.mem_cons, List.not_mem_nil, or_false, not_or]; (repeat' (first | apply And.intro | (first | assumption | (apply Nq.en; assumption) | omega | (simp only [Nq] at *; omega)))); done)) | omega)) only [↓put_σ, ↓mk_σ, AV.cells, sset, sdrop_none, sdrop_nil, sdrop_in, sdrop_out, List.nil_append, List.cons_append, List.append_nil, List.map_nil, List.map_cons, List.take_succ_cons, List.take_zero, List.drop_succ_cons, List.drop_zero, take_len', take_map_len, Nat.zero_add, Nat.add_zero, ofCell, ofConst]; rfl) | rfl))
    apply le; (repeat (first | (apply KeepIs.take; rfl) | (apply KeepIs.skip; rfl) | exact KeepIs.nil))
    (repeat (first | refine cs ?_ | refine cb ?_ | refine ck ?_ | refine cx ?_ | refine cr ?_ | refine an ?_ | refine ae ?_ | refine ar ?_ | refine bn ?_ | refine bh ?_ | refine be rfl ?_ | refine br ?_ | refine ct rfl ?_ | refine cf rfl ?_))
    first | refine sw_seq_region ?_ | refine sw_region ?_
    first | refine lo (lop_add64 (E rfl) (E rfl) (by omega) (by omega)) rfl ?_ | refine lo (lop_add (E rfl) (E rfl)) rfl ?_
    refine lo (lop_move (E rfl)) rfl ?_
    apply le; (repeat (first | (apply KeepIs.take; rfl) | (apply KeepIs.skip; rfl) | exact KeepIs.nil))
    (repeat (first | refine cs ?_ | refine cb ?_ | refine ck ?_ | refine cx ?_ | refine cr ?_ | refine an ?_ | refine ae ?_ | refine ar ?_ | refine bn ?_ | refine bh ?_ | refine be rfl ?_ | refine br ?_ | refine ct rfl ?_ | refine cf rfl ?_))
    refine ⟨(k + 1, r33, e), ⟨hlt, by show Nq r33 m; (first | assumption | (apply Nq.en; assumption) | omega | (simp only [Nq] at *; omega)), by show Nq e m; (first | assumption | (apply Nq.en; assumption) | omega | (simp only [Nq] at *; omega)), by show Nq e r33; (first | assumption | (apply Nq.en; assumption) | omega | (simp only [Nq] at *; omega))⟩, by show n - (k + 1) < n - k; omega, ?_⟩
    rw [← show growL dl (b.length / 256) (k + 1) = touchL (growL dl (b.length / 256) k) ((b.length / 256 + k : Nat) : Int) from rfl]
    (refine sgo_st ?_ ?_ <;> (repeat (first | exact FrLe.nil | (apply FrLe.cons; rfl; first | exact VLe.refl _ | exact VLe.any | exact VLe.empty | exact VLe.of_eq (by simp) | exact VLe.of_eq (by congr 1; omega)) | exact StLe.nil | exact StLe.refl _ | (apply StLe.cons; (repeat (first | exact List.mem_cons_self | apply List.mem_cons_of_mem)); first | rfl | focus (congr 1; done) | focus (simp; done) | (simp; rfl)))))
  obtain rfl : k = n := by simp at h2; omega
  (repeat (first | refine cs ?_ | refine cb ?_ | refine ck ?_ | refine cx ?_ | refine cr ?_ | refine an ?_ | refine ae ?_ | refine ar ?_ | refine bn ?_ | refine bh ?_ | refine be rfl ?_ | refine br ?_ | refine ct rfl ?_ | refine cf rfl ?_))
  first | refine sw_seq_region ?_ | refine sw_region ?_
  refine lo (lop_move (E rfl)) rfl ?_
  refine lo (lop_assign (E rfl)) rfl ?_
  apply le; (repeat (first | (apply KeepIs.take; rfl) | (apply KeepIs.skip; rfl) | exact KeepIs.nil))
  (repeat (first | refine cs ?_ | refine cb ?_ | refine ck ?_ | refine cx ?_ | refine cr ?_ | refine an ?_ | refine ae ?_ | refine ar ?_ | refine bn ?_ | refine bh ?_ | refine be rfl ?_ | refine br ?_ | refine ct rfl ?_ | refine cf rfl ?_))
  (apply aend; (repeat (first | exact ResL.nil | (apply ResL.tmp; rfl) | (apply ResL.cell; rfl; infer_instance; rfl; (repeat (first | exact sget_here | (apply sget_next; (first | assumption | (apply Nq.en; assumption) | omega | (simp only [Nq] at *; omega))))); rfl) | (apply ResL.cells; rfl; infer_instance; infer_instance; rfl; (repeat (first | exact sget_here | (apply sget_next; (first | assumption | (apply Nq.en; assumption) | omega | (simp only [Nq] at *; omega))))); exact Nat.le_of_ble_eq_true rfl))))
  · exact ⟨q1, d1, ⟨hM1, hM2, hM3⟩, rfl, rfl⟩
  · (first | exact no_mem | exact (fun _ h => h) | (apply StLe.mem; (repeat (first | exact StLe.nil | (apply StLe.cons; (repeat (first | exact List.mem_cons_self | apply List.mem_cons_of_mem)); first | rfl | focus (congr 1; done) | focus (simp; done) | (simp; rfl))))))
end
end Go.Proofs.Ytemehfolglcleaa
