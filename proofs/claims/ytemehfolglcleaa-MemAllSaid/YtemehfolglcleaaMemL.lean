/-
  MemAll: what is told against what was reckoned.
-/
import Derived.Test.YtemehfolglcleaaMemK
namespace Go.Proofs.Ytemehfolglcleaa
open Go.RowKit Go.ChangeShapes Go.WideShapes Go.ChangeAt Go.Deep
set_option linter.unusedSimpArgs false
set_option linter.unusedVariables false
attribute [local irreducible] SW RS RD AThen ABlock

def dsK (dl : List Int) : List Bool := (List.range 16).map fun i => dl.contains ((i : Nat) : Int)
theorem dsK_len (dl : List Int) : (dsK dl).length = 16 := by simp [dsK]
theorem dsK_at {dl : List Int} {p : Nat} (hp : p < 16) : (dsK dl)[p]? = some (dl.contains ((p : Nat) : Int)) := by
  unfold dsK
  rw [List.getElem?_map, List.getElem?_range hp]
  rfl
theorem dsK_set {dl : List Int} {p : Nat} (hp : p < 16) : (dsK dl).set p true = dsK (touchL dl ((p : Nat) : Int)) := by
  apply List.ext_getElem?
  intro j
  by_cases hj : j < 16
  · rw [dsK_at hj, touchL_contains]
    by_cases hjp : p = j
    · subst hjp
      rw [List.getElem?_set_self (by rw [dsK_len]; exact hp)]
      simp
    · rw [List.getElem?_set_ne hjp, dsK_at hj]
      rw [decide_eq_false (by omega), Bool.false_or]
  · rw [List.getElem?_eq_none (by rw [List.length_set, dsK_len]; omega), List.getElem?_eq_none (by rw [dsK_len]; omega)]
theorem dsK_congr {dl dl' : List Int} (h : ∀ i : Nat, i < 16 → dl.contains ((i : Nat) : Int) = dl'.contains ((i : Nat) : Int)) : dsK dl = dsK dl' := by
  unfold dsK
  exact List.map_congr_left fun i hi => h i (by simpa using hi)
theorem dl_len16 {dl : List Int} {k : Nat} (hs : dl.Pairwise (· < ·)) (hb : ∀ x ∈ dl, 0 ≤ x ∧ x < (k : Int)) : dl.length ≤ k := by
  rw [← toldK_all hs hb]
  unfold toldK
  rw [List.length_map]
  refine Nat.le_trans (List.length_filter_le _ _) ?_
  simp
theorem toldK_len (dl : List Int) (k : Nat) : (toldK dl k).length ≤ k := by
  unfold toldK
  rw [List.length_map]
  refine Nat.le_trans (List.length_filter_le _ _) ?_
  simp
theorem bools_cell (l : List Bool) : (AV.agg (l.map AV.bool)).cells.all AV.cell = true := by
  simp [AV.cells, AV.cell]
set_option maxRecDepth 100000 in
theorem law_same (b : List Nat) (mo : Int) (dl : List Int) (hb : b.length ≤ 4096) (hs : dl.Pairwise (· < ·)) (hd : ∀ x ∈ dl, 0 ≤ x ∧ x < ((b.length / 256 : Nat) : Int)) : SCall Try.prog 21 [.el 3 [[.ro 1 ((b).map encU) .any, .int .i64 mo, .ro 1 ((dl).map encI) .any]] 0 0, .ro 1 (b.map encU) .any, .agg ((dsK dl).map AV.bool)] [] (fun x σ => x = .bool true ∧ σ = []) := by
  have hdl := dl_len16 hs hd
  have htl := toldK_all hs hd
  refine scall_of (n := 83) (ks := [0, 1, 2, 5, 6, 7, 8, 9, 10, 11, 29, 32, 47, 50, 66, 77]) Try.func21 rfl rfl (Nat.le_of_ble_eq_true rfl) ?_
  (repeat (first | refine cs ?_ | refine cb ?_ | refine ck ?_ | refine cx ?_ | refine cr ?_ | refine an ?_ | refine ae ?_ | refine ar ?_ | refine bn ?_ | refine bh ?_ | refine be rfl ?_ | refine br ?_ | refine ct rfl ?_ | refine cf rfl ?_))
  first | refine sw_seq_region ?_ | refine sw_region ?_
  apply bx (cs := (dsK dl).map AV.bool); rfl; exact bools_cell _; rfl; rfl; intro r5 h5; simp only [fresh_cons, fresh_nil, and_true] at h5; (repeat (rcases h5 with ⟨_, h5⟩))
  refine lo (lop_assign (E rfl)) rfl ?_
  apply le; (repeat (first | (apply KeepIs.take; rfl) | (apply KeepIs.skip; rfl) | exact KeepIs.nil))
  (repeat (first | refine cs ?_ | refine cb ?_ | refine ck ?_ | refine cx ?_ | refine cr ?_ | refine an ?_ | refine ae ?_ | refine ar ?_ | refine bn ?_ | refine bh ?_ | refine be rfl ?_ | refine br ?_ | refine ct rfl ?_ | refine cf rfl ?_))
  first | refine sw_seq_region ?_ | refine sw_region ?_
  refine lo (lop_move (E rfl)) rfl ?_
  first | refine lo (lop_len_map (E rfl)) rfl ?_ | refine lo (lop_len_ro (E rfl)) rfl ?_ | refine lo (lop_len_own (E rfl)) rfl ?_
  refine lo (lop_quo (E rfl) (E rfl) (fun _ => by decide)) rfl ?_
  rw [quo256 (n := b.length) (by omega)]
  refine lo (lop_assign (E rfl)) rfl ?_
  apply le; (repeat (first | (apply KeepIs.take; rfl) | (apply KeepIs.skip; rfl) | exact KeepIs.nil))
  (repeat (first | refine cs ?_ | refine cb ?_ | refine ck ?_ | refine cx ?_ | refine cr ?_ | refine an ?_ | refine ae ?_ | refine ar ?_ | refine bn ?_ | refine bh ?_ | refine be rfl ?_ | refine br ?_ | refine ct rfl ?_ | refine cf rfl ?_))
  first | refine sw_seq_region ?_ | refine sw_region ?_
  refine lo (lop_move (E rfl)) rfl ?_
  (first | refine pu [] Try.call16 (mem_pages b mo dl (by omega)) rfl (by repeat (first | exact ArgsIf.nil | refine ArgsIf.cons (by first | exact Ev.when rfl (by first | exact id | simp) | exact Ev.here rfl) (by first | exact Bor.refl _ | exact Bor.le VLe.any | exact Bor.le VLe.empty | exact Bor.own (by simp) (by repeat (first | exact sget_here | refine sget_next (by (first | assumption | (apply Nq.en; assumption) | omega | (simp only [Nq] at *; omega))) ?_)) (by simp) | exact Bor.le (VLe.of_eq (by simp))) ?_)) (by repeat (first | exact NoF.int | exact NoF.bool | exact NoF.nilp | exact NoF.nil | exact NoF.own | exact NoF.ptr | exact NoF.str | exact nofl_nil | apply NoF.tup | apply NoF.agg | apply nofl_cons)) ?_ | refine pug [] rfl rfl Try.call16 (fun _ => (mem_pages b mo dl (by omega))) rfl (by repeat (first | exact ArgsIf.nil | refine ArgsIf.cons (by first | exact Ev.when rfl (by first | exact id | simp) | exact Ev.here rfl) (by first | exact Bor.refl _ | exact Bor.le VLe.any | exact Bor.le VLe.empty | exact Bor.own (by simp) (by repeat (first | exact sget_here | refine sget_next (by (first | assumption | (apply Nq.en; assumption) | omega | (simp only [Nq] at *; omega))) ?_)) (by simp) | exact Bor.le (VLe.of_eq (by simp))) ?_)) (by repeat (first | exact NoF.int | exact NoF.bool | exact NoF.nilp | exact NoF.nil | exact NoF.own | exact NoF.ptr | exact NoF.str | exact nofl_nil | apply NoF.tup | apply NoF.agg | apply nofl_cons)) ?_)
  refine lo (lop_move (E rfl)) rfl ?_
  refine lo (lop_neq (E rfl) (E rfl)) rfl ?_
  rw [show (((b.length / 256 : Nat) : Int) != ((b.length / 256 : Nat) : Int)) = false by simp]
  refine lo (lop_move (E rfl)) rfl ?_
  refine gy rfl rfl ?_; refine lo (lop_move (E rfl)) rfl ?_
  refine gy rfl rfl ?_
  (
      first
       | refine pu [] Try.call17 (mem_page_no b mo dl (by omega) (-1) (.inl (by decide))) rfl (by repeat (
        first
         | exact ArgsIf.nil
         | refine ArgsIf.cons (by
         first
          | exact Ev.when rfl (by
          first
           | exact id
           | simp)
          | exact Ev.here rfl) (by
         first
          | exact Bor.refl _
          | exact Bor.le VLe.any
          | exact Bor.le VLe.empty
          | exact Bor.own (by simp) (by repeat (
           first
            | exact sget_here
            | refine sget_next (by (
             first
              | assumption
              | (apply Nq.en; assumption)
              | omega
              | (simp only [Nq] at *; omega))) ?_)) (by simp)
          | exact Bor.le (VLe.of_eq (by simp))) ?_)) (by repeat (
        first
         | exact NoF.int
         | exact NoF.bool
         | exact NoF.nilp
         | exact NoF.nil
         | exact NoF.own
         | exact NoF.ptr
         | exact NoF.str
         | exact nofl_nil
         | apply NoF.tup
         | apply NoF.agg
         | apply nofl_cons)) ?_
       | refine pug [] rfl rfl Try.call17 (fun _ => (mem_page_no b mo dl (by omega) (-1) (.inl (by decide)))) rfl (by repeat (
        first
         | exact ArgsIf.nil
         | refine ArgsIf.cons (by
         first
          | exact Ev.when rfl (by
          first
           | exact id
           | simp)
          | exact Ev.here rfl) (by
         first
          | exact Bor.refl _
          | exact Bor.le VLe.any
          | exact Bor.le VLe.empty
          | exact Bor.own (by simp) (by repeat (
           first
            | exact sget_here
            | refine sget_next (by (
             first
              | assumption
              | (apply Nq.en; assumption)
              | omega
              | (simp only [Nq] at *; omega))) ?_)) (by simp)
          | exact Bor.le (VLe.of_eq (by simp))) ?_)) (by repeat (
        first
         | exact NoF.int
         | exact NoF.bool
         | exact NoF.nilp
         | exact NoF.nil
         | exact NoF.own
         | exact NoF.ptr
         | exact NoF.str
         | exact nofl_nil
         | apply NoF.tup
         | apply NoF.agg
         | apply nofl_cons)) ?_)
  refine gy rfl rfl ?_
  refine lo (lop_nil_neq (E rfl) rfl) rfl ?_
  first | refine lo (lop_pick_t (E rfl) (E rfl)) rfl ?_ | refine lo (lop_pick_f (E rfl) (by first | exact E rfl | exact W rfl (by simp))) rfl ?_ | refine lo (lop_pick (E rfl) (E rfl) (by first | exact E rfl | exact W rfl (by simp))) rfl ?_
  refine lo (lop_move (E rfl)) rfl ?_
  refine gy rfl rfl ?_; refine lo (lop_move (E rfl)) rfl ?_
  refine gy rfl rfl ?_; refine lo (lop_move (E rfl)) rfl ?_
  refine gy rfl rfl ?_
  (
      first
       | refine pu [] Try.call17 (mem_page_no b mo dl (by omega) ((b.length / 256 : Nat) : Int) (.inr (Int.le_refl _))) rfl (by repeat (
        first
         | exact ArgsIf.nil
         | refine ArgsIf.cons (by
         first
          | exact Ev.when rfl (by
          first
           | exact id
           | simp)
          | exact Ev.here rfl) (by
         first
          | exact Bor.refl _
          | exact Bor.le VLe.any
          | exact Bor.le VLe.empty
          | exact Bor.own (by simp) (by repeat (
           first
            | exact sget_here
            | refine sget_next (by (
             first
              | assumption
              | (apply Nq.en; assumption)
              | omega
              | (simp only [Nq] at *; omega))) ?_)) (by simp)
          | exact Bor.le (VLe.of_eq (by simp))) ?_)) (by repeat (
        first
         | exact NoF.int
         | exact NoF.bool
         | exact NoF.nilp
         | exact NoF.nil
         | exact NoF.own
         | exact NoF.ptr
         | exact NoF.str
         | exact nofl_nil
         | apply NoF.tup
         | apply NoF.agg
         | apply nofl_cons)) ?_
       | refine pug [] rfl rfl Try.call17 (fun _ => (mem_page_no b mo dl (by omega) ((b.length / 256 : Nat) : Int) (.inr (Int.le_refl _)))) rfl (by repeat (
        first
         | exact ArgsIf.nil
         | refine ArgsIf.cons (by
         first
          | exact Ev.when rfl (by
          first
           | exact id
           | simp)
          | exact Ev.here rfl) (by
         first
          | exact Bor.refl _
          | exact Bor.le VLe.any
          | exact Bor.le VLe.empty
          | exact Bor.own (by simp) (by repeat (
           first
            | exact sget_here
            | refine sget_next (by (
             first
              | assumption
              | (apply Nq.en; assumption)
              | omega
              | (simp only [Nq] at *; omega))) ?_)) (by simp)
          | exact Bor.le (VLe.of_eq (by simp))) ?_)) (by repeat (
        first
         | exact NoF.int
         | exact NoF.bool
         | exact NoF.nilp
         | exact NoF.nil
         | exact NoF.own
         | exact NoF.ptr
         | exact NoF.str
         | exact nofl_nil
         | apply NoF.tup
         | apply NoF.agg
         | apply nofl_cons)) ?_)
  refine gy rfl rfl ?_
  refine lo (lop_nil_neq (E rfl) rfl) rfl ?_
  first | refine lo (lop_pick_t (E rfl) (E rfl)) rfl ?_ | refine lo (lop_pick_f (E rfl) (by first | exact E rfl | exact W rfl (by simp))) rfl ?_ | refine lo (lop_pick (E rfl) (E rfl) (by first | exact E rfl | exact W rfl (by simp))) rfl ?_
  apply le; (repeat (first | (apply KeepIs.take; rfl) | (apply KeepIs.skip; rfl) | exact KeepIs.nil))
  (repeat (first | refine cs ?_ | refine cb ?_ | refine ck ?_ | refine cx ?_ | refine cr ?_ | refine an ?_ | refine ae ?_ | refine ar ?_ | refine bn ?_ | refine bh ?_ | refine be rfl ?_ | refine br ?_ | refine ct rfl ?_ | refine cf rfl ?_))
  first | refine sw_seq_region ?_ | refine sw_region ?_
  refine lo (lop_assign (E rfl)) rfl ?_
  apply le; (repeat (first | (apply KeepIs.take; rfl) | (apply KeepIs.skip; rfl) | exact KeepIs.nil))
  refine an ?_
  refine sw_virt (ks := [0, 1, 2, 5, 6, 7, 8, 9, 10, 11, 29, 32, 47, 50, 66, 77]) 8 3 1 (by decide) rfl (by decide) fun w0 hw0 => ?_
  simp only [fresh_cons, fresh_nil, and_true] at hw0; (repeat (rcases hw0 with ⟨_, hw0⟩))
  (repeat (first | refine cs ?_ | refine cb ?_ | refine ck ?_ | refine cx ?_ | refine cr ?_ | refine an ?_ | refine ae ?_ | refine ar ?_ | refine bn ?_ | refine bh ?_ | refine be rfl ?_ | refine br ?_ | refine ct rfl ?_ | refine cf rfl ?_))
  first | refine sw_seq_region ?_ | refine sw_region ?_
  refine lo (lop_assign (E rfl)) rfl ?_
  apply le; (repeat (first | (apply KeepIs.take; rfl) | (apply KeepIs.skip; rfl) | exact KeepIs.nil))
  (repeat (first | refine cs ?_ | refine cb ?_ | refine ck ?_ | refine cx ?_ | refine cr ?_ | refine an ?_ | refine ae ?_ | refine ar ?_ | refine bn ?_ | refine bh ?_ | refine be rfl ?_ | refine br ?_ | refine ct rfl ?_ | refine cf rfl ?_))
  refine lp (β := Nat × Nat) (fun s => ⟨[(0, .el 3 [[.ro 1 ((b).map encU) .any, .int .i64 mo, .ro 1 ((dl).map encI) .any]] 0 0), (1, .ro 1 (b.map encU) .any), (5, .ptr r5 0), (6, .bool false), (7, .int .i64 ((b.length / 256 : Nat) : Int)), (8, .own s.2 0 (toldK dl s.1).length), (9, .int .i64 s.1)], [(s.2, .arr 3 1 ((toldK dl s.1).map encI)), (r5, .box 45 ((dsK dl).map AV.bool))]⟩) (fun s => s.1 ≤ b.length / 256 ∧ Nq s.2 r5) (fun s => b.length / 256 - s.1) (0, w0) ?_ ⟨Nat.zero_le _, by show Nq w0 r5; (first | assumption | (apply Nq.en; assumption) | omega | (simp only [Nq] at *; omega))⟩ ?_
  · (refine sgo_st ?_ ?_ <;> (repeat (first | exact FrLe.nil | (apply FrLe.cons; rfl; first | exact VLe.refl _ | exact VLe.any | exact VLe.empty | exact VLe.of_eq (by simp) | exact VLe.of_eq (by congr 1; omega)) | exact StLe.nil | exact StLe.refl _ | (apply StLe.cons; (repeat (first | exact List.mem_cons_self | apply List.mem_cons_of_mem)); first | rfl | focus (congr 1; done) | focus (simp; done) | (simp; rfl)))))
  rintro ⟨i, w⟩ ⟨hi, hw⟩
  simp only at hi hw ⊢
  (repeat (first | refine cs ?_ | refine cb ?_ | refine ck ?_ | refine cx ?_ | refine cr ?_ | refine an ?_ | refine ae ?_ | refine ar ?_ | refine bn ?_ | refine bh ?_ | refine be rfl ?_ | refine br ?_ | refine ct rfl ?_ | refine cf rfl ?_))
  first | refine sw_seq_region ?_ | refine sw_region ?_
  refine lo (lop_move (E rfl)) rfl ?_
  refine lo (lop_move (E rfl)) rfl ?_
  refine lo (lop_lss (E rfl) (E rfl)) rfl ?_
  apply le; (repeat (first | (apply KeepIs.take; rfl) | (apply KeepIs.skip; rfl) | exact KeepIs.nil))
  (repeat (first | refine cs ?_ | refine cb ?_ | refine ck ?_ | refine cx ?_ | refine cr ?_ | refine an ?_ | refine ae ?_ | refine ar ?_ | refine bn ?_ | refine bh ?_ | refine be rfl ?_ | refine br ?_ | refine ct rfl ?_ | refine cf rfl ?_))
  refine sw_cond rfl (fun h5 => ?_) (fun h5 => ?_)
  · have hlt : i < b.length / 256 := by simp at h5; omega
    have hat : ((dsK dl).map AV.bool)[0 + ((i : Int)).toNat * 1]? = some (.bool (dl.contains ((i : Nat) : Int))) := by rw [List.getElem?_map, Int.toNat_natCast, Nat.zero_add, Nat.mul_one, dsK_at (by omega)]; rfl
    have hsu := toldK_succ dl i
    have hln := toldK_len dl i
    have e1 : IntKind.i64.wrap (256 * (i : Int)) = ((256 * i : Nat) : Int) := by rw [wrap_i64_of (by omega) (by omega)]; omega
    have hpl := pageL_len (b := b) (i := i) (by omega)
    (repeat (first | refine cs ?_ | refine cb ?_ | refine ck ?_ | refine cx ?_ | refine cr ?_ | refine an ?_ | refine ae ?_ | refine ar ?_ | refine bn ?_ | refine bh ?_ | refine be rfl ?_ | refine br ?_ | refine ct rfl ?_ | refine cf rfl ?_))
    first | refine sw_seq_drawn [(0, true), (1, true), (4, true), (5, true), (6, true), (7, true), (8, true), (9, true), (10, true), (11, true), (2, false), (3, true), (12, true)] mixed (by kernel_rfl) (by kernel_rfl) ?_ | refine sw_region_drawn [(0, true), (1, true), (4, true), (5, true), (6, true), (7, true), (8, true), (9, true), (10, true), (11, true), (2, false), (3, true), (12, true)] mixed (by kernel_rfl) (by kernel_rfl) ?_
    refine dlo rfl (lop_move (E rfl)) rfl ?_
    refine dlo rfl (lop_move (E rfl)) rfl ?_
    refine dlo rfl (lop_move (E rfl)) rfl ?_
    refine dlo rfl (lop_move (E rfl)) rfl ?_
    refine dlo rfl (lop_mul (E rfl) (E rfl)) rfl ?_
    refine dlo rfl (lop_move (E rfl)) rfl ?_
    refine dlo rfl (lop_mul (E rfl) (E rfl)) rfl ?_
    first | refine dlo rfl (lop_add64 (E rfl) (E rfl) (by omega) (by omega)) rfl ?_ | refine dlo rfl (lop_add (E rfl) (E rfl)) rfl ?_
    refine dlo rfl (lop_slice_ro (E rfl) (OB.some (b := 256 * i) (E rfl) (fun _ => e1)) (OB.some (b := 256 * i + 256) (E rfl) (fun _ => by rw [e1]; omega)) (fun _ => by rw [List.length_map]; omega)) rfl ?_
    rw [show 256 * i + 256 - 256 * i = 256 by omega, ← List.map_drop, ← List.map_take, ← show pageL b i = (b.drop (256 * i)).take 256 from rfl]
    refine dlo rfl (lop_bytes_ro (e := 5) (bs := pageL b i) (E rfl)) rfl ?_
    refine dcl [] rfl Try.call17 (mem_page b mo dl (by omega) i (by omega)) rfl ?_ ?_ ?_
    · (repeat (
         first
          | exact ArgsBor.nil
          | (apply ArgsBor.cons; rfl; (
           first
            | exact Bor.refl _
            | exact Bor.le VLe.any
            | exact Bor.le VLe.empty
            | (apply bown; (repeat (
              first
               | exact List.mem_cons_self
               | apply List.mem_cons_of_mem)); (repeat (
              first
               | exact sget_here
               | (apply sget_next; (
                first
                 | assumption
                 | (apply Nq.en; assumption)
                 | omega
                 | (simp only [Nq] at *; omega))))); (
             first
              | focus (simp; done)
              | omega
              | focus (simp; omega)); (
             first
              | rfl
              | focus (simp; done)
              | focus (exact List.take_of_length_le (by
               first
                | (simp; done)
                | (simp; omega)))))
            | focus (apply bbox; (repeat (
              first
               | exact List.mem_cons_self
               | apply List.mem_cons_of_mem)); (repeat (
              first
               | exact sget_here
               | (apply sget_next; (
                first
                 | assumption
                 | (apply Nq.en; assumption)
                 | omega
                 | (simp only [Nq] at *; omega))))); rfl; rfl; (repeat (
              first
               | exact BorL.nil
               | (apply BorL.cons; (
                first
                 | exact Bor.refl _
                 | exact Bor.le VLe.any
                 | exact Bor.le VLe.empty
                 | (apply bown; (repeat (
                   first
                    | exact List.mem_cons_self
                    | apply List.mem_cons_of_mem)); (repeat (
                   first
                    | exact sget_here
                    | (apply sget_next; (
                     first
                      | assumption
                      | (apply Nq.en; assumption)
                      | omega
                      | (simp only [Nq] at *; omega))))); (
                  first
                   | focus (simp; done)
                   | omega); (
                  first
                   | rfl
                   | focus (simp; done)
                   | focus (exact List.take_of_length_le (by
                    first
                     | (simp; done)
                     | (simp; omega)))))
                 | focus (apply Bor.le; apply VLe.of_eq; simp; done))))); done)
            | focus (apply bagg; (repeat (
              first
               | exact BorL.nil
               | (apply BorL.cons; (
                first
                 | exact Bor.refl _
                 | exact Bor.le VLe.any
                 | exact Bor.le VLe.empty
                 | (apply bown; (repeat (
                   first
                    | exact List.mem_cons_self
                    | apply List.mem_cons_of_mem)); (repeat (
                   first
                    | exact sget_here
                    | (apply sget_next; (
                     first
                      | assumption
                      | (apply Nq.en; assumption)
                      | omega
                      | (simp only [Nq] at *; omega))))); (
                  first
                   | focus (simp; done)
                   | omega); (
                  first
                   | rfl
                   | focus (simp; done)
                   | focus (exact List.take_of_length_le (by
                    first
                     | (simp; done)
                     | (simp; omega)))))
                 | focus (apply Bor.le; apply VLe.of_eq; simp; done))))); done)
            | focus (apply Bor.le; apply VLe.of_eq; simp; done)))))
    · rintro x σ' ⟨r, rfl, rfl⟩
      refine ⟨NoF.own, ?_⟩
      simp only [List.mem_singleton, forall_eq]
      exact bytes_noF
    rintro _ σ' ⟨pg, rfl, rfl⟩ hpg
    simp only [List.mem_cons, List.mem_singleton, List.not_mem_nil, or_false, forall_eq_or_imp, forall_eq, fresh_cons, fresh_nil, and_true, and_assoc] at hpg; (repeat (rcases hpg with ⟨_, hpg⟩))
    (apply rd_sto; (first | (simp (disch := (first | (simp only [List.mem_cons, List.not_mem_nil, true_or, or_true, or_false]; done) | (focus (simp only [List.mem_cons, List.not_mem_nil, or_false, not_or]; (repeat' (first | apply And.intro | (first | assumption | (apply Nq.en; assumption) | omega | (simp only [Nq] at *; omega)))); done)) | omega)) only [↓put_σ, ↓mk_σ, AV.cells, sset, sdrop_none, sdrop_nil, sdrop_in, sdrop_out, List.nil_append, List.cons_append, List.append_nil, List.map_nil, List.map_cons, List.take_succ_cons, List.take_zero, List.drop_succ_cons, List.drop_zero, take_len', take_map_len, Nat.zero_add, Nat.add_zero, ofCell, ofConst]; rfl) | rfl))
    refine dlo rfl (lop_bytes_own (e := 5) (bs := pageL b i) (bs' := pageL b i) (E rfl) (by repeat (first | exact sget_here | refine sget_next (by (first | assumption | (apply Nq.en; assumption) | omega | (simp only [Nq] at *; omega))) ?_)) (by omega) (by rw [List.drop_zero]; exact List.take_of_length_le (by omega))) rfl ?_
    refine dlo rfl (lop_sneq (E rfl) (E rfl)) rfl ?_
    rw [show (!((strU (pageL b i)).toList == (strU (pageL b i)).toList)) = false by simp]
    apply de; (repeat (first | (apply KeepIs.take; rfl) | (apply KeepIs.skip; rfl) | exact KeepIs.nil))
    (repeat (first | refine cs ?_ | refine cb ?_ | refine ck ?_ | refine cx ?_ | refine cr ?_ | refine an ?_ | refine ae ?_ | refine ar ?_ | refine bn ?_ | refine bh ?_ | refine be rfl ?_ | refine br ?_ | refine ct rfl ?_ | refine cf rfl ?_))
    first | refine sw_seq_region ?_ | refine sw_region ?_
    refine lo (lop_move (E rfl)) rfl ?_
    refine lo (lop_index_arr (E rfl) (E rfl) (fun _ => by omega)) rfl ?_
    first | refine lo (lop_load_ptr (E rfl) rfl (by repeat (first | exact sget_here | refine sget_next (by (first | assumption | (apply Nq.en; assumption) | omega | (simp only [Nq] at *; omega))) ?_)) (fun _ => rfl)) rfl ?_ | refine lo (lop_load_ptr (E rfl) rfl (by repeat (first | exact sget_here | refine sget_next (by (first | assumption | (apply Nq.en; assumption) | omega | (simp only [Nq] at *; omega))) ?_)) (fun _ => by assumption)) rfl ?_ | refine lo (lop_load_el (E rfl) rfl (fun hc => by first | rfl | exact get_map (by assumption) | assumption | exact get_map (at_bang (by omega))) (fun _ => rfl)) rfl ?_
    apply le; (repeat (first | (apply KeepIs.take; rfl) | (apply KeepIs.skip; rfl) | exact KeepIs.nil))
    (repeat (first | refine cs ?_ | refine cb ?_ | refine ck ?_ | refine cx ?_ | refine cr ?_ | refine an ?_ | refine ae ?_ | refine ar ?_ | refine bn ?_ | refine bh ?_ | refine be rfl ?_ | refine br ?_ | refine ct rfl ?_ | refine cf rfl ?_))
    refine sw_cond rfl (fun h6 => ?_) (fun h6 => ?_)
    · rw [h6, if_pos rfl] at hsu
      (repeat (first | refine cs ?_ | refine cb ?_ | refine ck ?_ | refine cx ?_ | refine cr ?_ | refine an ?_ | refine ae ?_ | refine ar ?_ | refine bn ?_ | refine bh ?_ | refine be rfl ?_ | refine br ?_ | refine ct rfl ?_ | refine cf rfl ?_))
      first | refine sw_seq_region ?_ | refine sw_region ?_
      refine lo (lop_move (E rfl)) rfl ?_
      refine lo (lop_move (E rfl)) rfl ?_
      apply bs; (repeat (first | exact AEvs.nil | (apply AEvs.cons; rfl))); rfl; rfl; rfl; rfl; (first | (simp only [Value.cells, AV.cells, List.map_cons, List.map_nil, ofConst, ofCell]; rfl) | rfl); rfl; intro r53 h53; simp only [fresh_cons, fresh_nil, and_true] at h53; (repeat (rcases h53 with ⟨_, h53⟩))
      apply ap (es' := (toldK dl (i + 1)).map encI) (len' := (toldK dl (i + 1)).length); rfl; rfl; (repeat (first | exact sget_here | (apply sget_next; (first | assumption | (apply Nq.en; assumption) | omega | (simp only [Nq] at *; omega)))))
      · simp
      · exact .inr (.inr ⟨_, _, _, _, _, rfl, (by repeat (first | exact sget_here | refine sget_next (by (first | assumption | (apply Nq.en; assumption) | omega | (simp only [Nq] at *; omega))) ?_)), by simp, rfl⟩)
      · rw [hsu]; simp; rfl
      · rw [hsu]; simp
      · rw [hsu]; simp [maxLen]; omega
      · rw [hsu]; simp; omega
      · rfl
      intro r54 h54; simp (disch := (first | (simp only [List.mem_cons, List.not_mem_nil, true_or, or_true, or_false]; done) | (focus (simp only [List.mem_cons, List.not_mem_nil, or_false, not_or]; (repeat' (first | apply And.intro | (first | assumption | (apply Nq.en; assumption) | omega | (simp only [Nq] at *; omega)))); done)) | omega)) only [fresh_cons, fresh_nil, and_true, sdrop_none, sdrop_nil, sdrop_in, sdrop_out] at h54; (repeat (rcases h54 with ⟨_, h54⟩)); apply Exists.intro; apply And.intro; (repeat (first | (apply SSet.here; (repeat (first | exact Fresh.nil | (apply Fresh.cons; (first | assumption | (apply Nq.en; assumption) | omega | (simp only [Nq] at *; omega)))))) | (apply SSet.next; (first | assumption | (apply Nq.en; assumption) | omega | (simp only [Nq] at *; omega)))))
      refine lo (lop_assign (E rfl)) rfl ?_
      apply le; (repeat (first | (apply KeepIs.take; rfl) | (apply KeepIs.skip; rfl) | exact KeepIs.nil))
      (repeat (first | refine cs ?_ | refine cb ?_ | refine ck ?_ | refine cx ?_ | refine cr ?_ | refine an ?_ | refine ae ?_ | refine ar ?_ | refine bn ?_ | refine bh ?_ | refine be rfl ?_ | refine br ?_ | refine ct rfl ?_ | refine cf rfl ?_))
      first | refine sw_seq_region ?_ | refine sw_region ?_
      refine lo (lop_move (E rfl)) rfl ?_
      first | refine lo (lop_add64 (E rfl) (E rfl) (by omega) (by omega)) rfl ?_ | refine lo (lop_add (E rfl) (E rfl)) rfl ?_
      refine lo (lop_assign (E rfl)) rfl ?_
      apply le; (repeat (first | (apply KeepIs.take; rfl) | (apply KeepIs.skip; rfl) | exact KeepIs.nil))
      (repeat (first | refine cs ?_ | refine cb ?_ | refine ck ?_ | refine cx ?_ | refine cr ?_ | refine an ?_ | refine ae ?_ | refine ar ?_ | refine bn ?_ | refine bh ?_ | refine be rfl ?_ | refine br ?_ | refine ct rfl ?_ | refine cf rfl ?_))
      refine ⟨(i + 1, r54), ⟨hlt, by show Nq r54 r5; (first | assumption | (apply Nq.en; assumption) | omega | (simp only [Nq] at *; omega))⟩, by show b.length / 256 - (i + 1) < b.length / 256 - i; omega, ?_⟩
      (refine sgo_st ?_ ?_ <;> (repeat (first | exact FrLe.nil | (apply FrLe.cons; rfl; first | exact VLe.refl _ | exact VLe.any | exact VLe.empty | exact VLe.of_eq (by simp) | exact VLe.of_eq (by congr 1; omega)) | exact StLe.nil | exact StLe.refl _ | (apply StLe.cons; (repeat (first | exact List.mem_cons_self | apply List.mem_cons_of_mem)); first | rfl | focus (congr 1; done) | focus (simp; done) | (simp; rfl)))))
    · rw [h6, if_neg (by simp)] at hsu
      (repeat (first | refine cs ?_ | refine cb ?_ | refine ck ?_ | refine cx ?_ | refine cr ?_ | refine an ?_ | refine ae ?_ | refine ar ?_ | refine bn ?_ | refine bh ?_ | refine be rfl ?_ | refine br ?_ | refine ct rfl ?_ | refine cf rfl ?_))
      first | refine sw_seq_region ?_ | refine sw_region ?_
      refine lo (lop_move (E rfl)) rfl ?_
      first | refine lo (lop_add64 (E rfl) (E rfl) (by omega) (by omega)) rfl ?_ | refine lo (lop_add (E rfl) (E rfl)) rfl ?_
      refine lo (lop_assign (E rfl)) rfl ?_
      apply le; (repeat (first | (apply KeepIs.take; rfl) | (apply KeepIs.skip; rfl) | exact KeepIs.nil))
      (repeat (first | refine cs ?_ | refine cb ?_ | refine ck ?_ | refine cx ?_ | refine cr ?_ | refine an ?_ | refine ae ?_ | refine ar ?_ | refine bn ?_ | refine bh ?_ | refine be rfl ?_ | refine br ?_ | refine ct rfl ?_ | refine cf rfl ?_))
      refine ⟨(i + 1, w), ⟨hlt, hw⟩, by show b.length / 256 - (i + 1) < b.length / 256 - i; omega, ?_⟩
      rw [hsu]
      (refine sgo_st ?_ ?_ <;> (repeat (first | exact FrLe.nil | (apply FrLe.cons; rfl; first | exact VLe.refl _ | exact VLe.any | exact VLe.empty | exact VLe.of_eq (by simp) | exact VLe.of_eq (by congr 1; omega)) | exact StLe.nil | exact StLe.refl _ | (apply StLe.cons; (repeat (first | exact List.mem_cons_self | apply List.mem_cons_of_mem)); first | rfl | focus (congr 1; done) | focus (simp; done) | (simp; rfl)))))
  obtain rfl : i = b.length / 256 := by simp at h5; omega
  rw [htl]
  (repeat (first | refine cs ?_ | refine cb ?_ | refine ck ?_ | refine cx ?_ | refine cr ?_ | refine an ?_ | refine ae ?_ | refine ar ?_ | refine bn ?_ | refine bh ?_ | refine be rfl ?_ | refine br ?_ | refine ct rfl ?_ | refine cf rfl ?_))
  first | refine sw_seq_region ?_ | refine sw_region ?_
  refine lo (lop_move (E rfl)) rfl ?_
  refine cl [] Try.call18 (mem_dirty b mo dl (by omega)) rfl ?_ ?_ ?_
  · (repeat (
       first
        | exact ArgsBor.nil
        | (apply ArgsBor.cons; rfl; (
         first
          | exact Bor.refl _
          | exact Bor.le VLe.any
          | exact Bor.le VLe.empty
          | (apply bown; (repeat (
            first
             | exact List.mem_cons_self
             | apply List.mem_cons_of_mem)); (repeat (
            first
             | exact sget_here
             | (apply sget_next; (
              first
               | assumption
               | (apply Nq.en; assumption)
               | omega
               | (simp only [Nq] at *; omega))))); (
           first
            | focus (simp; done)
            | omega
            | focus (simp; omega)); (
           first
            | rfl
            | focus (simp; done)
            | focus (exact List.take_of_length_le (by
             first
              | (simp; done)
              | (simp; omega)))))
          | focus (apply bbox; (repeat (
            first
             | exact List.mem_cons_self
             | apply List.mem_cons_of_mem)); (repeat (
            first
             | exact sget_here
             | (apply sget_next; (
              first
               | assumption
               | (apply Nq.en; assumption)
               | omega
               | (simp only [Nq] at *; omega))))); rfl; rfl; (repeat (
            first
             | exact BorL.nil
             | (apply BorL.cons; (
              first
               | exact Bor.refl _
               | exact Bor.le VLe.any
               | exact Bor.le VLe.empty
               | (apply bown; (repeat (
                 first
                  | exact List.mem_cons_self
                  | apply List.mem_cons_of_mem)); (repeat (
                 first
                  | exact sget_here
                  | (apply sget_next; (
                   first
                    | assumption
                    | (apply Nq.en; assumption)
                    | omega
                    | (simp only [Nq] at *; omega))))); (
                first
                 | focus (simp; done)
                 | omega); (
                first
                 | rfl
                 | focus (simp; done)
                 | focus (exact List.take_of_length_le (by
                  first
                   | (simp; done)
                   | (simp; omega)))))
               | focus (apply Bor.le; apply VLe.of_eq; simp; done))))); done)
          | focus (apply bagg; (repeat (
            first
             | exact BorL.nil
             | (apply BorL.cons; (
              first
               | exact Bor.refl _
               | exact Bor.le VLe.any
               | exact Bor.le VLe.empty
               | (apply bown; (repeat (
                 first
                  | exact List.mem_cons_self
                  | apply List.mem_cons_of_mem)); (repeat (
                 first
                  | exact sget_here
                  | (apply sget_next; (
                   first
                    | assumption
                    | (apply Nq.en; assumption)
                    | omega
                    | (simp only [Nq] at *; omega))))); (
                first
                 | focus (simp; done)
                 | omega); (
                first
                 | rfl
                 | focus (simp; done)
                 | focus (exact List.take_of_length_le (by
                  first
                   | (simp; done)
                   | (simp; omega)))))
               | focus (apply Bor.le; apply VLe.of_eq; simp; done))))); done)
          | focus (apply Bor.le; apply VLe.of_eq; simp; done)))))
  · rintro x σ' ⟨r, rfl, rfl⟩
    refine ⟨NoF.own, ?_⟩
    simp only [List.mem_singleton, forall_eq]
    exact ints_noF
  rintro _ σ' ⟨d5, rfl, rfl⟩ hd5
  simp only [List.mem_cons, List.mem_singleton, List.not_mem_nil, or_false, forall_eq_or_imp, forall_eq, fresh_cons, fresh_nil, and_true, and_assoc] at hd5; (repeat (rcases hd5 with ⟨_, hd5⟩))
  (apply rs_sto; (first | (simp (disch := (first | (simp only [List.mem_cons, List.not_mem_nil, true_or, or_true, or_false]; done) | (focus (simp only [List.mem_cons, List.not_mem_nil, or_false, not_or]; (repeat' (first | apply And.intro | (first | assumption | (apply Nq.en; assumption) | omega | (simp only [Nq] at *; omega)))); done)) | omega)) only [↓put_σ, ↓mk_σ, AV.cells, sset, sdrop_none, sdrop_nil, sdrop_in, sdrop_out, List.nil_append, List.cons_append, List.append_nil, List.map_nil, List.map_cons, List.take_succ_cons, List.take_zero, List.drop_succ_cons, List.drop_zero, take_len', take_map_len, Nat.zero_add, Nat.add_zero, ofCell, ofConst]; rfl) | rfl))
  refine lo (lop_assign (E rfl)) rfl ?_
  apply le; (repeat (first | (apply KeepIs.take; rfl) | (apply KeepIs.skip; rfl) | exact KeepIs.nil))
  (repeat (first | refine cs ?_ | refine cb ?_ | refine ck ?_ | refine cx ?_ | refine cr ?_ | refine an ?_ | refine ae ?_ | refine ar ?_ | refine bn ?_ | refine bh ?_ | refine be rfl ?_ | refine br ?_ | refine ct rfl ?_ | refine cf rfl ?_))
  first | refine sw_seq_region ?_ | refine sw_region ?_
  refine lo (lop_assign (E rfl)) rfl ?_
  apply le; (repeat (first | (apply KeepIs.take; rfl) | (apply KeepIs.skip; rfl) | exact KeepIs.nil))
  (repeat (first | refine cs ?_ | refine cb ?_ | refine ck ?_ | refine cx ?_ | refine cr ?_ | refine an ?_ | refine ae ?_ | refine ar ?_ | refine bn ?_ | refine bh ?_ | refine be rfl ?_ | refine br ?_ | refine ct rfl ?_ | refine cf rfl ?_))
  refine lp (β := Nat) (fun j => ⟨[(6, .bool false), (8, .own w 0 dl.length), (10, .own d5 0 dl.length), (11, .int .i64 j)], [(d5, .arr 3 1 (dl.map encI)), (w, .arr 3 1 (dl.map encI))]⟩) (fun j => j ≤ dl.length) (fun j => dl.length - j) 0 ?_ (Nat.zero_le _) ?_
  · (refine sgo_st ?_ ?_ <;> (repeat (first | exact FrLe.nil | (apply FrLe.cons; rfl; first | exact VLe.refl _ | exact VLe.any | exact VLe.empty | exact VLe.of_eq (by simp) | exact VLe.of_eq (by congr 1; omega)) | exact StLe.nil | exact StLe.refl _ | (apply StLe.cons; (repeat (first | exact List.mem_cons_self | apply List.mem_cons_of_mem)); first | rfl | focus (congr 1; done) | focus (simp; done) | (simp; rfl)))))
  rintro j hj
  (repeat (first | refine cs ?_ | refine cb ?_ | refine ck ?_ | refine cx ?_ | refine cr ?_ | refine an ?_ | refine ae ?_ | refine ar ?_ | refine bn ?_ | refine bh ?_ | refine be rfl ?_ | refine br ?_ | refine ct rfl ?_ | refine cf rfl ?_))
  first | refine sw_seq_region ?_ | refine sw_region ?_
  refine lo (lop_move (E rfl)) rfl ?_
  refine lo (lop_move (E rfl)) rfl ?_
  first | refine lo (lop_len_map (E rfl)) rfl ?_ | refine lo (lop_len_ro (E rfl)) rfl ?_ | refine lo (lop_len_own (E rfl)) rfl ?_
  refine lo (lop_lss (E rfl) (E rfl)) rfl ?_
  refine lo (lop_move (E rfl)) rfl ?_
  first | refine ln rfl rfl rfl rfl ?_ | refine lg rfl rfl (lop_move (E rfl)) rfl ?_
  first | refine ln rfl rfl rfl rfl ?_ | refine lg rfl rfl (lop_move (E rfl)) rfl ?_
  first | refine ln rfl rfl rfl rfl ?_ | refine lg rfl rfl (lop_len_map (W rfl id)) rfl ?_ | refine lg rfl rfl (lop_len_ro (W rfl id)) rfl ?_ | refine lg rfl rfl (lop_len_own (W rfl id)) rfl ?_
  first | refine ln rfl rfl rfl rfl ?_ | refine lg rfl rfl (lop_lss (W rfl id) (W rfl id)) rfl ?_
  first | refine lo (lop_pick_t (E rfl) (W rfl (by simp))) rfl ?_ | refine lo (lop_pick_f (E rfl) (E rfl)) rfl ?_ | refine lo (lop_pick (E rfl) (W rfl (by simp)) (E rfl)) rfl ?_
  apply le; (repeat (first | (apply KeepIs.take; rfl) | (apply KeepIs.skip; rfl) | exact KeepIs.nil))
  (repeat (first | refine cs ?_ | refine cb ?_ | refine ck ?_ | refine cx ?_ | refine cr ?_ | refine an ?_ | refine ae ?_ | refine ar ?_ | refine bn ?_ | refine bh ?_ | refine be rfl ?_ | refine br ?_ | refine ct rfl ?_ | refine cf rfl ?_))
  refine sw_cond rfl (fun h7 => ?_) (fun h7 => ?_)
  · have hjl : j < dl.length := by
      by_cases h8 : (j : Int) < dl.length
      · omega
      · rw [decide_eq_false h8] at h7; simp at h7
    obtain ⟨y, hy⟩ : ∃ y, dl[j]? = some y := ⟨_, List.getElem?_eq_getElem hjl⟩
    have hy2 : dl[((j : Int)).toNat]? = some y := by rw [Int.toNat_natCast]; exact hy
    (repeat (first | refine cs ?_ | refine cb ?_ | refine ck ?_ | refine cx ?_ | refine cr ?_ | refine an ?_ | refine ae ?_ | refine ar ?_ | refine bn ?_ | refine bh ?_ | refine be rfl ?_ | refine br ?_ | refine ct rfl ?_ | refine cf rfl ?_))
    first | refine sw_seq_drawn [(0, true), (1, true), (2, true), (3, true), (4, true), (5, true), (6, true), (7, true), (8, true)] mixed (by kernel_rfl) (by kernel_rfl) ?_ | refine sw_region_drawn [(0, true), (1, true), (2, true), (3, true), (4, true), (5, true), (6, true), (7, true), (8, true)] mixed (by kernel_rfl) (by kernel_rfl) ?_
    refine dlo rfl (lop_move (E rfl)) rfl ?_
    refine dlo rfl (lop_move (E rfl)) rfl ?_
    first | refine dlo rfl (lop_index_ro (E rfl) (E rfl) (fun hc => by (simp only [List.length_map]; omega))) rfl ?_ | refine dlo rfl (lop_index_own0 (E rfl) (by repeat (first | exact sget_here | refine sget_next (by (first | assumption | (apply Nq.en; assumption) | omega | (simp only [Nq] at *; omega))) ?_)) (E rfl) (fun hc => by omega)) rfl ?_ | refine dlo rfl (lop_index_own (E rfl) (by repeat (first | exact sget_here | refine sget_next (by (first | assumption | (apply Nq.en; assumption) | omega | (simp only [Nq] at *; omega))) ?_)) (E rfl) (fun hc => by omega)) rfl ?_
    first | refine dlo rfl (lop_load_el (E rfl) rfl (fun hc => by first | rfl | exact get_map (by assumption) | assumption | exact get_map (at_bang (by omega))) (fun _ => rfl)) rfl ?_ | refine dlo rfl (lop_load_ow (E rfl) rfl (by repeat (first | exact sget_here | refine sget_next (by (first | assumption | (apply Nq.en; assumption) | omega | (simp only [Nq] at *; omega))) ?_)) (fun hc => by first | rfl | exact get_map (by assumption) | assumption | exact get_map (at_bang (by omega))) (fun _ => rfl)) rfl ?_
    refine dlo rfl (lop_move (E rfl)) rfl ?_
    refine dlo rfl (lop_move (E rfl)) rfl ?_
    first | refine dlo rfl (lop_index_ro (E rfl) (E rfl) (fun hc => by (simp only [List.length_map]; omega))) rfl ?_ | refine dlo rfl (lop_index_own0 (E rfl) (by repeat (first | exact sget_here | refine sget_next (by (first | assumption | (apply Nq.en; assumption) | omega | (simp only [Nq] at *; omega))) ?_)) (E rfl) (fun hc => by omega)) rfl ?_ | refine dlo rfl (lop_index_own (E rfl) (by repeat (first | exact sget_here | refine sget_next (by (first | assumption | (apply Nq.en; assumption) | omega | (simp only [Nq] at *; omega))) ?_)) (E rfl) (fun hc => by omega)) rfl ?_
    first | refine dlo rfl (lop_load_el (E rfl) rfl (fun hc => by first | rfl | exact get_map (by assumption) | assumption | exact get_map (at_bang (by omega))) (fun _ => rfl)) rfl ?_ | refine dlo rfl (lop_load_ow (E rfl) rfl (by repeat (first | exact sget_here | refine sget_next (by (first | assumption | (apply Nq.en; assumption) | omega | (simp only [Nq] at *; omega))) ?_)) (fun hc => by first | rfl | exact get_map (by assumption) | assumption | exact get_map (at_bang (by omega))) (fun _ => rfl)) rfl ?_
    refine dlo rfl (lop_neq (E rfl) (E rfl)) rfl ?_
    rw [show (y != y) = false by simp]
    apply de; (repeat (first | (apply KeepIs.take; rfl) | (apply KeepIs.skip; rfl) | exact KeepIs.nil))
    (repeat (first | refine cs ?_ | refine cb ?_ | refine ck ?_ | refine cx ?_ | refine cr ?_ | refine an ?_ | refine ae ?_ | refine ar ?_ | refine bn ?_ | refine bh ?_ | refine be rfl ?_ | refine br ?_ | refine ct rfl ?_ | refine cf rfl ?_))
    first | refine sw_seq_region ?_ | refine sw_region ?_
    refine lo (lop_move (E rfl)) rfl ?_
    first | refine lo (lop_add64 (E rfl) (E rfl) (by omega) (by omega)) rfl ?_ | refine lo (lop_add (E rfl) (E rfl)) rfl ?_
    refine lo (lop_assign (E rfl)) rfl ?_
    apply le; (repeat (first | (apply KeepIs.take; rfl) | (apply KeepIs.skip; rfl) | exact KeepIs.nil))
    (repeat (first | refine cs ?_ | refine cb ?_ | refine ck ?_ | refine cx ?_ | refine cr ?_ | refine an ?_ | refine ae ?_ | refine ar ?_ | refine bn ?_ | refine bh ?_ | refine be rfl ?_ | refine br ?_ | refine ct rfl ?_ | refine cf rfl ?_))
    refine ⟨j + 1, hjl, by show dl.length - (j + 1) < dl.length - j; omega, ?_⟩
    (refine sgo_st ?_ ?_ <;> (repeat (first | exact FrLe.nil | (apply FrLe.cons; rfl; first | exact VLe.refl _ | exact VLe.any | exact VLe.empty | exact VLe.of_eq (by simp) | exact VLe.of_eq (by congr 1; omega)) | exact StLe.nil | exact StLe.refl _ | (apply StLe.cons; (repeat (first | exact List.mem_cons_self | apply List.mem_cons_of_mem)); first | rfl | focus (congr 1; done) | focus (simp; done) | (simp; rfl)))))
  (repeat (first | refine cs ?_ | refine cb ?_ | refine ck ?_ | refine cx ?_ | refine cr ?_ | refine an ?_ | refine ae ?_ | refine ar ?_ | refine bn ?_ | refine bh ?_ | refine be rfl ?_ | refine br ?_ | refine ct rfl ?_ | refine cf rfl ?_))
  first | refine sw_seq_region ?_ | refine sw_region ?_
  refine lo (lop_move (E rfl)) rfl ?_
  first | refine lo (lop_len_map (E rfl)) rfl ?_ | refine lo (lop_len_ro (E rfl)) rfl ?_ | refine lo (lop_len_own (E rfl)) rfl ?_
  refine lo (lop_move (E rfl)) rfl ?_
  first | refine lo (lop_len_map (E rfl)) rfl ?_ | refine lo (lop_len_ro (E rfl)) rfl ?_ | refine lo (lop_len_own (E rfl)) rfl ?_
  refine lo (lop_eql (E rfl) (E rfl)) rfl ?_
  refine lo (lop_assign (E rfl)) rfl ?_
  apply le; (repeat (first | (apply KeepIs.take; rfl) | (apply KeepIs.skip; rfl) | exact KeepIs.nil))
  (repeat (first | refine cs ?_ | refine cb ?_ | refine ck ?_ | refine cx ?_ | refine cr ?_ | refine an ?_ | refine ae ?_ | refine ar ?_ | refine bn ?_ | refine bh ?_ | refine be rfl ?_ | refine br ?_ | refine ct rfl ?_ | refine cf rfl ?_))
  (apply aend; (repeat (first | exact ResL.nil | (apply ResL.tmp; rfl) | (apply ResL.cell; rfl; infer_instance; rfl; (repeat (first | exact sget_here | (apply sget_next; (first | assumption | (apply Nq.en; assumption) | omega | (simp only [Nq] at *; omega))))); rfl) | (apply ResL.cells; rfl; infer_instance; infer_instance; rfl; (repeat (first | exact sget_here | (apply sget_next; (first | assumption | (apply Nq.en; assumption) | omega | (simp only [Nq] at *; omega))))); exact Nat.le_of_ble_eq_true rfl))))
  · exact ⟨by simp [resAV], rfl⟩
  · (first | exact no_mem | exact (fun _ h => h) | (apply StLe.mem; (repeat (first | exact StLe.nil | (apply StLe.cons; (repeat (first | exact List.mem_cons_self | apply List.mem_cons_of_mem)); first | rfl | focus (congr 1; done) | focus (simp; done) | (simp; rfl))))))
end Go.Proofs.Ytemehfolglcleaa
