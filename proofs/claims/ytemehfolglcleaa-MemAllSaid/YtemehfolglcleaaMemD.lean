/-
  Package mem: Page, SetPage, Dirty, New.
-/
import Derived.Test.YtemehfolglcleaaMemC
namespace Go.Proofs.Ytemehfolglcleaa
open Go.RowKit Go.ChangeShapes Go.WideShapes Go.ChangeAt Go.Deep
set_option linter.unusedSimpArgs false
set_option linter.unusedVariables false
attribute [local irreducible] SW RS RD AThen ABlock

def pageL (b : List Nat) (i : Nat) : List Nat := (b.drop (256 * i)).take 256
theorem pageL_len {b : List Nat} {i : Nat} (h : i < b.length / 256) : (pageL b i).length = 256 := by simp [pageL]; omega
def setPg (b : List Nat) (i : Nat) (p : List Nat) : List Nat := b.take (256 * i) ++ p ++ b.drop (256 * i + 256)
theorem setPg_len {b p : List Nat} {i : Nat} (h : i < b.length / 256) (hp : p.length = 256) : (setPg b i p).length = b.length := by simp [setPg]; omega
set_option maxRecDepth 100000 in
theorem mem_page_no (b : List Nat) (mo : Int) (dl : List Int) (hb : b.length ≤ 1000000) (i : Int) (h' : i < 0 ∨ ((b.length / 256 : Nat) : Int) ≤ i) : SCall Try.prog 17 [.el 3 [[.ro 1 ((b).map encU) .any, .int .i64 mo, .ro 1 ((dl).map encI) .any]] 0 0, .int .i64 i] []
    (fun x σ => x = .ro 0 [] .nil ∧ σ = []) := by
  refine scall_of (n := 24) (ks := [0, 1, 4, 12]) Try.func17 rfl rfl (Nat.le_of_ble_eq_true rfl) ?_
  (repeat (first | refine cs ?_ | refine cb ?_ | refine ck ?_ | refine cx ?_ | refine cr ?_ | refine an ?_ | refine ae ?_ | refine ar ?_ | refine bn ?_ | refine bh ?_ | refine be rfl ?_ | refine br ?_ | refine ct rfl ?_ | refine cf rfl ?_))
  first | refine sw_seq_region ?_ | refine sw_region ?_
  refine lo (lop_assign (E rfl)) rfl ?_
  apply le; (repeat (first | (apply KeepIs.take; rfl) | (apply KeepIs.skip; rfl) | exact KeepIs.nil))
  (repeat (first | refine cs ?_ | refine cb ?_ | refine ck ?_ | refine cx ?_ | refine cr ?_ | refine an ?_ | refine ae ?_ | refine ar ?_ | refine bn ?_ | refine bh ?_ | refine be rfl ?_ | refine br ?_ | refine ct rfl ?_ | refine cf rfl ?_))
  first | refine sw_seq_region ?_ | refine sw_region ?_
  refine lo (lop_move (E rfl)) rfl ?_
  refine lo (lop_lss (E rfl) (E rfl)) rfl ?_
  refine lo (lop_move (E rfl)) rfl ?_
  first | refine ln rfl rfl rfl rfl ?_ | refine lg rfl rfl (lop_move (E rfl)) rfl ?_
  first | refine ln rfl rfl rfl rfl ?_ | refine lg rfl rfl (lop_move (E rfl)) rfl ?_
  (first | refine pu [] Try.call16 (mem_pages b mo dl hb) rfl (by repeat (first | exact ArgsIf.nil | refine ArgsIf.cons (by first | exact Ev.when rfl (by first | exact id | simp) | exact Ev.here rfl) (by first | exact Bor.refl _ | exact Bor.le VLe.any | exact Bor.le VLe.empty | exact Bor.own (by simp) (by repeat (first | exact sget_here | refine sget_next (by (first | assumption | (apply Nq.en; assumption) | omega | (simp only [Nq] at *; omega))) ?_)) (by simp) | exact Bor.le (VLe.of_eq (by simp))) ?_)) (by repeat (first | exact NoF.int | exact NoF.bool | exact NoF.nilp | exact NoF.nil | exact NoF.own | exact NoF.ptr | exact NoF.str | exact nofl_nil | apply NoF.tup | apply NoF.agg | apply nofl_cons)) ?_ | refine pug [] rfl rfl Try.call16 (fun _ => (mem_pages b mo dl hb)) rfl (by repeat (first | exact ArgsIf.nil | refine ArgsIf.cons (by first | exact Ev.when rfl (by first | exact id | simp) | exact Ev.here rfl) (by first | exact Bor.refl _ | exact Bor.le VLe.any | exact Bor.le VLe.empty | exact Bor.own (by simp) (by repeat (first | exact sget_here | refine sget_next (by (first | assumption | (apply Nq.en; assumption) | omega | (simp only [Nq] at *; omega))) ?_)) (by simp) | exact Bor.le (VLe.of_eq (by simp))) ?_)) (by repeat (first | exact NoF.int | exact NoF.bool | exact NoF.nilp | exact NoF.nil | exact NoF.own | exact NoF.ptr | exact NoF.str | exact nofl_nil | apply NoF.tup | apply NoF.agg | apply nofl_cons)) ?_)
  first | refine ln rfl rfl rfl rfl ?_ | refine lg rfl rfl (lop_geq (W rfl id) (by first | exact W rfl id | exact E rfl)) rfl ?_
  first | refine lo (lop_pick_t (E rfl) (E rfl)) rfl ?_ | refine lo (lop_pick_f (E rfl) (W rfl (by simp))) rfl ?_ | refine lo (lop_pick (E rfl) (E rfl) (W rfl (by simp))) rfl ?_
  apply le; (repeat (first | (apply KeepIs.take; rfl) | (apply KeepIs.skip; rfl) | exact KeepIs.nil))
  (repeat (first | refine cs ?_ | refine cb ?_ | refine ck ?_ | refine cx ?_ | refine cr ?_ | refine an ?_ | refine ae ?_ | refine ar ?_ | refine bn ?_ | refine bh ?_ | refine be rfl ?_ | refine br ?_ | refine ct rfl ?_ | refine cf rfl ?_))
  have hc : (if decide (i < 0) = true then true else decide (((b.length / 256 : Nat) : Int) ≤ i)) = true := by
    rcases h' with h | h
    · simp [h]
    · rw [decide_eq_true h]; simp
  rw [hc]
  (repeat (first | refine cs ?_ | refine cb ?_ | refine ck ?_ | refine cx ?_ | refine cr ?_ | refine an ?_ | refine ae ?_ | refine ar ?_ | refine bn ?_ | refine bh ?_ | refine be rfl ?_ | refine br ?_ | refine ct rfl ?_ | refine cf rfl ?_))
  first | refine sw_seq_region ?_ | refine sw_region ?_
  refine lo (lop_assign (E rfl)) rfl ?_
  apply le; (repeat (first | (apply KeepIs.take; rfl) | (apply KeepIs.skip; rfl) | exact KeepIs.nil))
  (repeat (first | refine cs ?_ | refine cb ?_ | refine ck ?_ | refine cx ?_ | refine cr ?_ | refine an ?_ | refine ae ?_ | refine ar ?_ | refine bn ?_ | refine bh ?_ | refine be rfl ?_ | refine br ?_ | refine ct rfl ?_ | refine cf rfl ?_))
  (apply aend; (repeat (first | exact ResL.nil | (apply ResL.tmp; rfl) | (apply ResL.cell; rfl; infer_instance; rfl; (repeat (first | exact sget_here | (apply sget_next; (first | assumption | (apply Nq.en; assumption) | omega | (simp only [Nq] at *; omega))))); rfl) | (apply ResL.cells; rfl; infer_instance; infer_instance; rfl; (repeat (first | exact sget_here | (apply sget_next; (first | assumption | (apply Nq.en; assumption) | omega | (simp only [Nq] at *; omega))))); exact Nat.le_of_ble_eq_true rfl))))
  · exact ⟨rfl, rfl⟩
  · (first | exact no_mem | exact (fun _ h => h) | (apply StLe.mem; (repeat (first | exact StLe.nil | (apply StLe.cons; (repeat (first | exact List.mem_cons_self | apply List.mem_cons_of_mem)); first | rfl | focus (congr 1; done) | focus (simp; done) | (simp; rfl))))))
set_option maxRecDepth 100000 in
theorem mem_page (b : List Nat) (mo : Int) (dl : List Int) (hb : b.length ≤ 1000000) (i : Nat) (h' : i < b.length / 256) : SCall Try.prog 17 [.el 3 [[.ro 1 ((b).map encU) .any, .int .i64 mo, .ro 1 ((dl).map encI) .any]] 0 0, .int .i64 i] []
    (fun x σ => ∃ r, x = .own r 0 256 ∧ σ = [(r, .arr 5 1 ((pageL b i).map encU))]) := by
  refine scall_of (n := 24) (ks := [0, 1, 4, 12]) Try.func17 rfl rfl (Nat.le_of_ble_eq_true rfl) ?_
  (repeat (first | refine cs ?_ | refine cb ?_ | refine ck ?_ | refine cx ?_ | refine cr ?_ | refine an ?_ | refine ae ?_ | refine ar ?_ | refine bn ?_ | refine bh ?_ | refine be rfl ?_ | refine br ?_ | refine ct rfl ?_ | refine cf rfl ?_))
  first | refine sw_seq_region ?_ | refine sw_region ?_
  refine lo (lop_assign (E rfl)) rfl ?_
  apply le; (repeat (first | (apply KeepIs.take; rfl) | (apply KeepIs.skip; rfl) | exact KeepIs.nil))
  (repeat (first | refine cs ?_ | refine cb ?_ | refine ck ?_ | refine cx ?_ | refine cr ?_ | refine an ?_ | refine ae ?_ | refine ar ?_ | refine bn ?_ | refine bh ?_ | refine be rfl ?_ | refine br ?_ | refine ct rfl ?_ | refine cf rfl ?_))
  first | refine sw_seq_region ?_ | refine sw_region ?_
  refine lo (lop_move (E rfl)) rfl ?_
  refine lo (lop_lss (E rfl) (E rfl)) rfl ?_
  refine lo (lop_move (E rfl)) rfl ?_
  first | refine ln rfl rfl rfl rfl ?_ | refine lg rfl rfl (lop_move (E rfl)) rfl ?_
  first | refine ln rfl rfl rfl rfl ?_ | refine lg rfl rfl (lop_move (E rfl)) rfl ?_
  (first | refine pu [] Try.call16 (mem_pages b mo dl hb) rfl (by repeat (first | exact ArgsIf.nil | refine ArgsIf.cons (by first | exact Ev.when rfl (by first | exact id | simp) | exact Ev.here rfl) (by first | exact Bor.refl _ | exact Bor.le VLe.any | exact Bor.le VLe.empty | exact Bor.own (by simp) (by repeat (first | exact sget_here | refine sget_next (by (first | assumption | (apply Nq.en; assumption) | omega | (simp only [Nq] at *; omega))) ?_)) (by simp) | exact Bor.le (VLe.of_eq (by simp))) ?_)) (by repeat (first | exact NoF.int | exact NoF.bool | exact NoF.nilp | exact NoF.nil | exact NoF.own | exact NoF.ptr | exact NoF.str | exact nofl_nil | apply NoF.tup | apply NoF.agg | apply nofl_cons)) ?_ | refine pug [] rfl rfl Try.call16 (fun _ => (mem_pages b mo dl hb)) rfl (by repeat (first | exact ArgsIf.nil | refine ArgsIf.cons (by first | exact Ev.when rfl (by first | exact id | simp) | exact Ev.here rfl) (by first | exact Bor.refl _ | exact Bor.le VLe.any | exact Bor.le VLe.empty | exact Bor.own (by simp) (by repeat (first | exact sget_here | refine sget_next (by (first | assumption | (apply Nq.en; assumption) | omega | (simp only [Nq] at *; omega))) ?_)) (by simp) | exact Bor.le (VLe.of_eq (by simp))) ?_)) (by repeat (first | exact NoF.int | exact NoF.bool | exact NoF.nilp | exact NoF.nil | exact NoF.own | exact NoF.ptr | exact NoF.str | exact nofl_nil | apply NoF.tup | apply NoF.agg | apply nofl_cons)) ?_)
  first | refine ln rfl rfl rfl rfl ?_ | refine lg rfl rfl (lop_geq (W rfl id) (by first | exact W rfl id | exact E rfl)) rfl ?_
  first | refine lo (lop_pick_t (E rfl) (E rfl)) rfl ?_ | refine lo (lop_pick_f (E rfl) (W rfl (by simp))) rfl ?_ | refine lo (lop_pick (E rfl) (E rfl) (W rfl (by simp))) rfl ?_
  apply le; (repeat (first | (apply KeepIs.take; rfl) | (apply KeepIs.skip; rfl) | exact KeepIs.nil))
  (repeat (first | refine cs ?_ | refine cb ?_ | refine ck ?_ | refine cx ?_ | refine cr ?_ | refine an ?_ | refine ae ?_ | refine ar ?_ | refine bn ?_ | refine bh ?_ | refine be rfl ?_ | refine br ?_ | refine ct rfl ?_ | refine cf rfl ?_))
  rw [show decide (((b.length / 256 : Nat) : Int) ≤ i) = false from decide_eq_false (by omega)]
  have e1 : IntKind.i64.wrap ((i : Int) * 256) = ((256 * i : Nat) : Int) := by rw [wrap_i64_of (by omega) (by omega)]; omega
  have e2 : IntKind.i64.wrap (((i : Int) + 1) * 256) = ((256 * i + 256 : Nat) : Int) := by rw [wrap_i64_of (by omega) (by omega)]; omega
  (repeat (first | refine cs ?_ | refine cb ?_ | refine ck ?_ | refine cx ?_ | refine cr ?_ | refine an ?_ | refine ae ?_ | refine ar ?_ | refine bn ?_ | refine bh ?_ | refine be rfl ?_ | refine br ?_ | refine ct rfl ?_ | refine cf rfl ?_))
  first | refine sw_seq_region ?_ | refine sw_region ?_
  refine lo (lop_move (E rfl)) rfl ?_
  first | refine lo (lop_nilCheck (E rfl) (.inl ⟨_, _, rfl⟩)) rfl ?_ | refine lo (lop_nilCheck (E rfl) (.inr (.inl ⟨_, _, _, rfl⟩))) rfl ?_ | refine lo (lop_nilCheck (E rfl) (.inr (.inr ⟨_, _, _, _, rfl⟩))) rfl ?_
  first | refine lo (lop_field_ptr (E rfl) rfl (by decide)) rfl ?_ | refine lo (lop_field_el (E rfl) rfl (by decide)) rfl ?_
  first | refine lo (lop_load_ptr (E rfl) rfl (by repeat (first | exact sget_here | refine sget_next (by (first | assumption | (apply Nq.en; assumption) | omega | (simp only [Nq] at *; omega))) ?_)) (fun _ => rfl)) rfl ?_ | refine lo (lop_load_el (E rfl) rfl (fun hc => by first | rfl | exact get_map (by assumption) | assumption | exact get_map (at_bang (by omega))) (fun _ => rfl)) rfl ?_
  refine lo (lop_move (E rfl)) rfl ?_
  refine lo (lop_mul (E rfl) (E rfl)) rfl ?_
  rw [e1]
  refine lo (lop_move (E rfl)) rfl ?_
  first | refine lo (lop_add64 (E rfl) (E rfl) (by omega) (by omega)) rfl ?_ | refine lo (lop_add (E rfl) (E rfl)) rfl ?_
  refine lo (lop_mul (E rfl) (E rfl)) rfl ?_
  rw [e2]
  first | refine lo (lop_slice_ro (E rfl) (OB.some (E rfl) (fun _ => by first | rfl | exact (Int.toNat_of_nonneg (by omega)).symm)) (OB.some (E rfl) (fun _ => by first | rfl | exact (Int.toNat_of_nonneg (by omega)).symm)) (fun _ => by first | (simp only [List.length_map]; omega) | omega)) rfl ?_ | refine lo (lop_slice_own (E rfl) (by repeat (first | exact sget_here | refine sget_next (by (first | assumption | (apply Nq.en; assumption) | omega | (simp only [Nq] at *; omega))) ?_)) (OB.some (E rfl) (fun _ => by first | rfl | exact (Int.toNat_of_nonneg (by omega)).symm)) (OB.some (E rfl) (fun _ => by first | rfl | exact (Int.toNat_of_nonneg (by omega)).symm)) (fun _ => by first | (simp only [List.length_map]; omega) | omega)) rfl ?_
  have hpl := pageL_len h'
  rw [show 256 * i + 256 - 256 * i = 256 by omega, ← List.map_drop, ← List.map_take, ← show pageL b i = (b.drop (256 * i)).take 256 from rfl]
  refine cl [] Try.call24 (lib_clone_u8 (es := (pageL b i).map encU) (by simp [hpl])) rfl ?_ ?_ ?_
  · (repeat (
       first
        | exact ArgsBor.nil
        | (apply ArgsBor.cons; rfl; (
         first
          | exact Bor.refl _
          | exact Bor.le VLe.any
          | exact Bor.le VLe.empty
          | (apply bown; (repeat (
            first
             | exact List.mem_cons_self
             | apply List.mem_cons_of_mem)); (repeat (
            first
             | exact sget_here
             | (apply sget_next; (
              first
               | assumption
               | (apply Nq.en; assumption)
               | omega
               | (simp only [Nq] at *; omega))))); (
           first
            | focus (simp; done)
            | omega
            | focus (simp; omega)); (
           first
            | rfl
            | focus (simp; done)
            | focus (exact List.take_of_length_le (by
             first
              | (simp; done)
              | (simp; omega)))))
          | focus (apply bbox; (repeat (
            first
             | exact List.mem_cons_self
             | apply List.mem_cons_of_mem)); (repeat (
            first
             | exact sget_here
             | (apply sget_next; (
              first
               | assumption
               | (apply Nq.en; assumption)
               | omega
               | (simp only [Nq] at *; omega))))); rfl; rfl; (repeat (
            first
             | exact BorL.nil
             | (apply BorL.cons; (
              first
               | exact Bor.refl _
               | exact Bor.le VLe.any
               | exact Bor.le VLe.empty
               | (apply bown; (repeat (
                 first
                  | exact List.mem_cons_self
                  | apply List.mem_cons_of_mem)); (repeat (
                 first
                  | exact sget_here
                  | (apply sget_next; (
                   first
                    | assumption
                    | (apply Nq.en; assumption)
                    | omega
                    | (simp only [Nq] at *; omega))))); (
                first
                 | focus (simp; done)
                 | omega); (
                first
                 | rfl
                 | focus (simp; done)
                 | focus (exact List.take_of_length_le (by
                  first
                   | (simp; done)
                   | (simp; omega)))))
               | focus (apply Bor.le; apply VLe.of_eq; simp; done))))); done)
          | focus (apply bagg; (repeat (
            first
             | exact BorL.nil
             | (apply BorL.cons; (
              first
               | exact Bor.refl _
               | exact Bor.le VLe.any
               | exact Bor.le VLe.empty
               | (apply bown; (repeat (
                 first
                  | exact List.mem_cons_self
                  | apply List.mem_cons_of_mem)); (repeat (
                 first
                  | exact sget_here
                  | (apply sget_next; (
                   first
                    | assumption
                    | (apply Nq.en; assumption)
                    | omega
                    | (simp only [Nq] at *; omega))))); (
                first
                 | focus (simp; done)
                 | omega); (
                first
                 | rfl
                 | focus (simp; done)
                 | focus (exact List.take_of_length_le (by
                  first
                   | (simp; done)
                   | (simp; omega)))))
               | focus (apply Bor.le; apply VLe.of_eq; simp; done))))); done)
          | focus (apply Bor.le; apply VLe.of_eq; simp; done)))))
  · rintro x σ' ⟨r, rfl, rfl⟩
    refine ⟨NoF.own, ?_⟩
    simp only [List.mem_singleton, forall_eq]
    exact bytes_noF
  rintro x σ' ⟨r, rfl, rfl⟩ hr
  rw [List.length_map, hpl]
  (apply rs_sto; (first | (simp (disch := (first | (simp only [List.mem_cons, List.not_mem_nil, true_or, or_true, or_false]; done) | (focus (simp only [List.mem_cons, List.not_mem_nil, or_false, not_or]; (repeat' (first | apply And.intro | (first | assumption | (apply Nq.en; assumption) | omega | (simp only [Nq] at *; omega)))); done)) | omega)) only [↓put_σ, ↓mk_σ, AV.cells, sset, sdrop_none, sdrop_nil, sdrop_in, sdrop_out, List.nil_append, List.cons_append, List.append_nil, List.map_nil, List.map_cons, List.take_succ_cons, List.take_zero, List.drop_succ_cons, List.drop_zero, take_len', take_map_len, Nat.zero_add, Nat.add_zero, ofCell, ofConst]; rfl) | rfl))
  refine lo (lop_assign (E rfl)) rfl ?_
  apply le; (repeat (first | (apply KeepIs.take; rfl) | (apply KeepIs.skip; rfl) | exact KeepIs.nil))
  (repeat (first | refine cs ?_ | refine cb ?_ | refine ck ?_ | refine cx ?_ | refine cr ?_ | refine an ?_ | refine ae ?_ | refine ar ?_ | refine bn ?_ | refine bh ?_ | refine be rfl ?_ | refine br ?_ | refine ct rfl ?_ | refine cf rfl ?_))
  (apply aend; (repeat (first | exact ResL.nil | (apply ResL.tmp; rfl) | (apply ResL.cell; rfl; infer_instance; rfl; (repeat (first | exact sget_here | (apply sget_next; (first | assumption | (apply Nq.en; assumption) | omega | (simp only [Nq] at *; omega))))); rfl) | (apply ResL.cells; rfl; infer_instance; infer_instance; rfl; (repeat (first | exact sget_here | (apply sget_next; (first | assumption | (apply Nq.en; assumption) | omega | (simp only [Nq] at *; omega))))); exact Nat.le_of_ble_eq_true rfl))))
  · exact ⟨r, rfl, rfl⟩
  · (first | exact no_mem | exact (fun _ h => h) | (apply StLe.mem; (repeat (first | exact StLe.nil | (apply StLe.cons; (repeat (first | exact List.mem_cons_self | apply List.mem_cons_of_mem)); first | rfl | focus (congr 1; done) | focus (simp; done) | (simp; rfl))))))
set_option maxRecDepth 100000 in
theorem mem_dirty (b : List Nat) (mo : Int) (dl : List Int) (hdl : dl.length ≤ 10000) : SCall Try.prog 18 [.el 3 [[.ro 1 ((b).map encU) .any, .int .i64 mo, .ro 1 ((dl).map encI) .any]] 0 0] []
    (fun x σ => ∃ r, x = .own r 0 dl.length ∧ σ = [(r, .arr 3 1 (dl.map encI))]) := by
  refine scall_of (n := 10) (ks := [0, 2, 4]) Try.func18 rfl rfl (Nat.le_of_ble_eq_true rfl) ?_
  (repeat (first | refine cs ?_ | refine cb ?_ | refine ck ?_ | refine cx ?_ | refine cr ?_ | refine an ?_ | refine ae ?_ | refine ar ?_ | refine bn ?_ | refine bh ?_ | refine be rfl ?_ | refine br ?_ | refine ct rfl ?_ | refine cf rfl ?_))
  first | refine sw_seq_region ?_ | refine sw_region ?_
  refine lo (lop_assign (E rfl)) rfl ?_
  apply le; (repeat (first | (apply KeepIs.take; rfl) | (apply KeepIs.skip; rfl) | exact KeepIs.nil))
  (repeat (first | refine cs ?_ | refine cb ?_ | refine ck ?_ | refine cx ?_ | refine cr ?_ | refine an ?_ | refine ae ?_ | refine ar ?_ | refine bn ?_ | refine bh ?_ | refine be rfl ?_ | refine br ?_ | refine ct rfl ?_ | refine cf rfl ?_))
  first | refine sw_seq_region ?_ | refine sw_region ?_
  refine lo (lop_move (E rfl)) rfl ?_
  first | refine lo (lop_peql (E rfl) (E rfl) (.inl ⟨rfl, rfl⟩)) rfl ?_ | refine lo (lop_peql (E rfl) (E rfl) (.inr (.inl ⟨⟨_, _, rfl⟩, rfl⟩))) rfl ?_ | refine lo (lop_peql (E rfl) (E rfl) (.inr (.inr (.inl ⟨⟨_, _, _, rfl⟩, rfl⟩)))) rfl ?_ | refine lo (lop_peql (E rfl) (E rfl) (.inr (.inr (.inr ⟨⟨_, _, _, _, rfl⟩, rfl⟩)))) rfl ?_
  apply le; (repeat (first | (apply KeepIs.take; rfl) | (apply KeepIs.skip; rfl) | exact KeepIs.nil))
  (repeat (first | refine cs ?_ | refine cb ?_ | refine ck ?_ | refine cx ?_ | refine cr ?_ | refine an ?_ | refine ae ?_ | refine ar ?_ | refine bn ?_ | refine bh ?_ | refine be rfl ?_ | refine br ?_ | refine ct rfl ?_ | refine cf rfl ?_))
  first | refine sw_seq_region ?_ | refine sw_region ?_
  refine lo (lop_move (E rfl)) rfl ?_
  first | refine lo (lop_nilCheck (E rfl) (.inl ⟨_, _, rfl⟩)) rfl ?_ | refine lo (lop_nilCheck (E rfl) (.inr (.inl ⟨_, _, _, rfl⟩))) rfl ?_ | refine lo (lop_nilCheck (E rfl) (.inr (.inr ⟨_, _, _, _, rfl⟩))) rfl ?_
  first | refine lo (lop_field_ptr (E rfl) rfl (by decide)) rfl ?_ | refine lo (lop_field_el (E rfl) rfl (by decide)) rfl ?_
  first | refine lo (lop_load_ptr (E rfl) rfl (by repeat (first | exact sget_here | refine sget_next (by (first | assumption | (apply Nq.en; assumption) | omega | (simp only [Nq] at *; omega))) ?_)) (fun _ => rfl)) rfl ?_ | refine lo (lop_load_el (E rfl) rfl (fun hc => by first | rfl | exact get_map (by assumption) | assumption | exact get_map (at_bang (by omega))) (fun _ => rfl)) rfl ?_
  refine cl [] Try.call25 (lib_clone_int (es := dl.map encI) (by simp; omega)) rfl ?_ ?_ ?_
  · (repeat (
       first
        | exact ArgsBor.nil
        | (apply ArgsBor.cons; rfl; (
         first
          | exact Bor.refl _
          | exact Bor.le VLe.any
          | exact Bor.le VLe.empty
          | (apply bown; (repeat (
            first
             | exact List.mem_cons_self
             | apply List.mem_cons_of_mem)); (repeat (
            first
             | exact sget_here
             | (apply sget_next; (
              first
               | assumption
               | (apply Nq.en; assumption)
               | omega
               | (simp only [Nq] at *; omega))))); (
           first
            | focus (simp; done)
            | omega
            | focus (simp; omega)); (
           first
            | rfl
            | focus (simp; done)
            | focus (exact List.take_of_length_le (by
             first
              | (simp; done)
              | (simp; omega)))))
          | focus (apply bbox; (repeat (
            first
             | exact List.mem_cons_self
             | apply List.mem_cons_of_mem)); (repeat (
            first
             | exact sget_here
             | (apply sget_next; (
              first
               | assumption
               | (apply Nq.en; assumption)
               | omega
               | (simp only [Nq] at *; omega))))); rfl; rfl; (repeat (
            first
             | exact BorL.nil
             | (apply BorL.cons; (
              first
               | exact Bor.refl _
               | exact Bor.le VLe.any
               | exact Bor.le VLe.empty
               | (apply bown; (repeat (
                 first
                  | exact List.mem_cons_self
                  | apply List.mem_cons_of_mem)); (repeat (
                 first
                  | exact sget_here
                  | (apply sget_next; (
                   first
                    | assumption
                    | (apply Nq.en; assumption)
                    | omega
                    | (simp only [Nq] at *; omega))))); (
                first
                 | focus (simp; done)
                 | omega); (
                first
                 | rfl
                 | focus (simp; done)
                 | focus (exact List.take_of_length_le (by
                  first
                   | (simp; done)
                   | (simp; omega)))))
               | focus (apply Bor.le; apply VLe.of_eq; simp; done))))); done)
          | focus (apply bagg; (repeat (
            first
             | exact BorL.nil
             | (apply BorL.cons; (
              first
               | exact Bor.refl _
               | exact Bor.le VLe.any
               | exact Bor.le VLe.empty
               | (apply bown; (repeat (
                 first
                  | exact List.mem_cons_self
                  | apply List.mem_cons_of_mem)); (repeat (
                 first
                  | exact sget_here
                  | (apply sget_next; (
                   first
                    | assumption
                    | (apply Nq.en; assumption)
                    | omega
                    | (simp only [Nq] at *; omega))))); (
                first
                 | focus (simp; done)
                 | omega); (
                first
                 | rfl
                 | focus (simp; done)
                 | focus (exact List.take_of_length_le (by
                  first
                   | (simp; done)
                   | (simp; omega)))))
               | focus (apply Bor.le; apply VLe.of_eq; simp; done))))); done)
          | focus (apply Bor.le; apply VLe.of_eq; simp; done)))))
  · rintro x σ' ⟨r, rfl, rfl⟩
    refine ⟨NoF.own, ?_⟩
    simp only [List.mem_singleton, forall_eq]
    exact ints_noF
  rintro x σ' ⟨r, rfl, rfl⟩ hr
  rw [List.length_map]
  (apply rs_sto; (first | (simp (disch := (first | (simp only [List.mem_cons, List.not_mem_nil, true_or, or_true, or_false]; done) | (focus (simp only [List.mem_cons, List.not_mem_nil, or_false, not_or]; (repeat' (first | apply And.intro | (first | assumption | (apply Nq.en; assumption) | omega | (simp only [Nq] at *; omega)))); done)) | omega)) only [↓put_σ, ↓mk_σ, AV.cells, sset, sdrop_none, sdrop_nil, sdrop_in, sdrop_out, List.nil_append, List.cons_append, List.append_nil, List.map_nil, List.map_cons, List.take_succ_cons, List.take_zero, List.drop_succ_cons, List.drop_zero, take_len', take_map_len, Nat.zero_add, Nat.add_zero, ofCell, ofConst]; rfl) | rfl))
  refine lo (lop_assign (E rfl)) rfl ?_
  apply le; (repeat (first | (apply KeepIs.take; rfl) | (apply KeepIs.skip; rfl) | exact KeepIs.nil))
  (repeat (first | refine cs ?_ | refine cb ?_ | refine ck ?_ | refine cx ?_ | refine cr ?_ | refine an ?_ | refine ae ?_ | refine ar ?_ | refine bn ?_ | refine bh ?_ | refine be rfl ?_ | refine br ?_ | refine ct rfl ?_ | refine cf rfl ?_))
  (apply aend; (repeat (first | exact ResL.nil | (apply ResL.tmp; rfl) | (apply ResL.cell; rfl; infer_instance; rfl; (repeat (first | exact sget_here | (apply sget_next; (first | assumption | (apply Nq.en; assumption) | omega | (simp only [Nq] at *; omega))))); rfl) | (apply ResL.cells; rfl; infer_instance; infer_instance; rfl; (repeat (first | exact sget_here | (apply sget_next; (first | assumption | (apply Nq.en; assumption) | omega | (simp only [Nq] at *; omega))))); exact Nat.le_of_ble_eq_true rfl))))
  · exact ⟨r, rfl, rfl⟩
  · (first | exact no_mem | exact (fun _ h => h) | (apply StLe.mem; (repeat (first | exact StLe.nil | (apply StLe.cons; (repeat (first | exact List.mem_cons_self | apply List.mem_cons_of_mem)); first | rfl | focus (congr 1; done) | focus (simp; done) | (simp; rfl))))))
def newMo (mx : Int) : Int := if mx = -1 then 16 else max (min 16 mx) (-1)
set_option maxRecDepth 100000 in
theorem mem_new_no (h : Bool) (mn mx : Int) (h' : h = false ∨ mn < 0 ∨ 16 < mn) : SCall Try.prog 12 [.agg [.bool h, .int .i64 mn, .int .i64 mx]] []
    (fun x σ => x = .nilp ∧ σ = []) := by
  refine scall_of (n := 38) (ks := [0, 1, 2, 3, 16, 25]) Try.func12 rfl rfl (Nat.le_of_ble_eq_true rfl) ?_
  (repeat (first | refine cs ?_ | refine cb ?_ | refine ck ?_ | refine cx ?_ | refine cr ?_ | refine an ?_ | refine ae ?_ | refine ar ?_ | refine bn ?_ | refine bh ?_ | refine be rfl ?_ | refine br ?_ | refine ct rfl ?_ | refine cf rfl ?_))
  first | refine sw_seq_region ?_ | refine sw_region ?_
  apply bx; rfl; rfl; (first | (simp only [Value.cells, AV.cells, List.map_cons, List.map_nil, ofConst, ofCell]; rfl) | rfl); rfl; intro r1 h1; simp only [fresh_cons, fresh_nil, and_true] at h1; (repeat (rcases h1 with ⟨_, h1⟩))
  refine lo (lop_assign (E rfl)) rfl ?_
  apply le; (repeat (first | (apply KeepIs.take; rfl) | (apply KeepIs.skip; rfl) | exact KeepIs.nil))
  (repeat (first | refine cs ?_ | refine cb ?_ | refine ck ?_ | refine cx ?_ | refine cr ?_ | refine an ?_ | refine ae ?_ | refine ar ?_ | refine bn ?_ | refine bh ?_ | refine be rfl ?_ | refine br ?_ | refine ct rfl ?_ | refine cf rfl ?_))
  first | refine sw_seq_region ?_ | refine sw_region ?_
  first | refine lo (lop_field_ptr (E rfl) rfl (by decide)) rfl ?_ | refine lo (lop_field_el (E rfl) rfl (by decide)) rfl ?_
  first | refine lo (lop_load_ptr (E rfl) rfl (by repeat (first | exact sget_here | refine sget_next (by (first | assumption | (apply Nq.en; assumption) | omega | (simp only [Nq] at *; omega))) ?_)) (fun _ => rfl)) rfl ?_ | refine lo (lop_load_el (E rfl) rfl (fun hc => by first | rfl | exact get_map (by assumption) | assumption | exact get_map (at_bang (by omega))) (fun _ => rfl)) rfl ?_
  refine lo (lop_not (E rfl)) rfl ?_
  refine lo (lop_move (E rfl)) rfl ?_
  first | refine ln rfl rfl rfl rfl ?_ | refine lg rfl rfl (lop_field_ptr (E rfl) rfl (by decide)) rfl ?_ | refine lg rfl rfl (lop_field_el (E rfl) rfl (by decide)) rfl ?_
  first | refine ln rfl rfl rfl rfl ?_ | refine lg rfl rfl (lop_load_ptr (W rfl id) rfl (by repeat (first | exact sget_here | refine sget_next (by (first | assumption | (apply Nq.en; assumption) | omega | (simp only [Nq] at *; omega))) ?_)) (fun _ => rfl)) rfl ?_ | refine lg rfl rfl (lop_load_el (W rfl id) rfl (fun hc => by first | rfl | exact get_map (by assumption) | assumption | exact get_map (at_bang (by (try simp at hc) <;> omega))) (fun _ => rfl)) rfl ?_
  first | refine ln rfl rfl rfl rfl ?_ | refine lg rfl rfl (lop_lss (W rfl id) (E rfl)) rfl ?_
  first | refine lo (lop_pick_t (E rfl) (E rfl)) rfl ?_ | refine lo (lop_pick_f (E rfl) (W rfl (by simp))) rfl ?_ | refine lo (lop_pick (E rfl) (E rfl) (W rfl (by simp))) rfl ?_
  refine lo (lop_move (E rfl)) rfl ?_
  first | refine ln rfl rfl rfl rfl ?_ | refine lg rfl rfl (lop_field_ptr (E rfl) rfl (by decide)) rfl ?_ | refine lg rfl rfl (lop_field_el (E rfl) rfl (by decide)) rfl ?_
  first | refine ln rfl rfl rfl rfl ?_ | refine lg rfl rfl (lop_load_ptr (W rfl id) rfl (by repeat (first | exact sget_here | refine sget_next (by (first | assumption | (apply Nq.en; assumption) | omega | (simp only [Nq] at *; omega))) ?_)) (fun _ => rfl)) rfl ?_ | refine lg rfl rfl (lop_load_el (W rfl id) rfl (fun hc => by first | rfl | exact get_map (by assumption) | assumption | exact get_map (at_bang (by (try simp at hc) <;> omega))) (fun _ => rfl)) rfl ?_
  first | refine ln rfl rfl rfl rfl ?_ | refine lg rfl rfl (lop_gtr (W rfl id) (E rfl)) rfl ?_
  first | refine lo (lop_pick_t (E rfl) (E rfl)) rfl ?_ | refine lo (lop_pick_f (E rfl) (W rfl (by simp))) rfl ?_ | refine lo (lop_pick (E rfl) (E rfl) (W rfl (by simp))) rfl ?_
  apply le; (repeat (first | (apply KeepIs.take; rfl) | (apply KeepIs.skip; rfl) | exact KeepIs.nil))
  (repeat (first | refine cs ?_ | refine cb ?_ | refine ck ?_ | refine cx ?_ | refine cr ?_ | refine an ?_ | refine ae ?_ | refine ar ?_ | refine bn ?_ | refine bh ?_ | refine be rfl ?_ | refine br ?_ | refine ct rfl ?_ | refine cf rfl ?_))
  refine sw_cond rfl (fun h2 => ?_) (fun h2 => ?_)
  · (repeat (first | refine cs ?_ | refine cb ?_ | refine ck ?_ | refine cx ?_ | refine cr ?_ | refine an ?_ | refine ae ?_ | refine ar ?_ | refine bn ?_ | refine bh ?_ | refine be rfl ?_ | refine br ?_ | refine ct rfl ?_ | refine cf rfl ?_))
    first | refine sw_seq_region ?_ | refine sw_region ?_
    refine lo (lop_assign (E rfl)) rfl ?_
    apply le; (repeat (first | (apply KeepIs.take; rfl) | (apply KeepIs.skip; rfl) | exact KeepIs.nil))
    (repeat (first | refine cs ?_ | refine cb ?_ | refine ck ?_ | refine cx ?_ | refine cr ?_ | refine an ?_ | refine ae ?_ | refine ar ?_ | refine bn ?_ | refine bh ?_ | refine be rfl ?_ | refine br ?_ | refine ct rfl ?_ | refine cf rfl ?_))
    (apply aend; (repeat (first | exact ResL.nil | (apply ResL.tmp; rfl) | (apply ResL.cell; rfl; infer_instance; rfl; (repeat (first | exact sget_here | (apply sget_next; (first | assumption | (apply Nq.en; assumption) | omega | (simp only [Nq] at *; omega))))); rfl) | (apply ResL.cells; rfl; infer_instance; infer_instance; rfl; (repeat (first | exact sget_here | (apply sget_next; (first | assumption | (apply Nq.en; assumption) | omega | (simp only [Nq] at *; omega))))); exact Nat.le_of_ble_eq_true rfl))))
    · exact ⟨rfl, rfl⟩
    · (first | exact no_mem | exact (fun _ h => h) | (apply StLe.mem; (repeat (first | exact StLe.nil | (apply StLe.cons; (repeat (first | exact List.mem_cons_self | apply List.mem_cons_of_mem)); first | rfl | focus (congr 1; done) | focus (simp; done) | (simp; rfl))))))
  · exfalso
    rcases h' with rfl | h' | h'
    · simp at h2
    · simp [h'] at h2
    · simp [h'] at h2
set_option maxRecDepth 100000 in
theorem mem_new (mn : Nat) (mx : Int) (h' : mn ≤ 16) : SCall Try.prog 12 [.agg [.bool true, .int .i64 mn, .int .i64 mx]] []
    (fun x σ => ∃ m q d, (Nq q m ∧ Nq d m ∧ Nq d q) ∧ x = .ptr m 0 ∧ σ = [(m, .box 54 [.own q 0 (List.replicate (256 * mn) 0).length, .int .i64 (newMo mx), .own d 0 (([] : List Int)).length]), (q, .arr 5 1 ((List.replicate (256 * mn) 0).map encU)), (d, .arr 3 1 ((([] : List Int)).map encI))]) := by
  refine scall_of (n := 38) (ks := [0, 1, 2, 3, 16, 25]) Try.func12 rfl rfl (Nat.le_of_ble_eq_true rfl) ?_
  (repeat (first | refine cs ?_ | refine cb ?_ | refine ck ?_ | refine cx ?_ | refine cr ?_ | refine an ?_ | refine ae ?_ | refine ar ?_ | refine bn ?_ | refine bh ?_ | refine be rfl ?_ | refine br ?_ | refine ct rfl ?_ | refine cf rfl ?_))
  first | refine sw_seq_region ?_ | refine sw_region ?_
  apply bx; rfl; rfl; (first | (simp only [Value.cells, AV.cells, List.map_cons, List.map_nil, ofConst, ofCell]; rfl) | rfl); rfl; intro r1 h1; simp only [fresh_cons, fresh_nil, and_true] at h1; (repeat (rcases h1 with ⟨_, h1⟩))
  refine lo (lop_assign (E rfl)) rfl ?_
  apply le; (repeat (first | (apply KeepIs.take; rfl) | (apply KeepIs.skip; rfl) | exact KeepIs.nil))
  (repeat (first | refine cs ?_ | refine cb ?_ | refine ck ?_ | refine cx ?_ | refine cr ?_ | refine an ?_ | refine ae ?_ | refine ar ?_ | refine bn ?_ | refine bh ?_ | refine be rfl ?_ | refine br ?_ | refine ct rfl ?_ | refine cf rfl ?_))
  first | refine sw_seq_region ?_ | refine sw_region ?_
  first | refine lo (lop_field_ptr (E rfl) rfl (by decide)) rfl ?_ | refine lo (lop_field_el (E rfl) rfl (by decide)) rfl ?_
  first | refine lo (lop_load_ptr (E rfl) rfl (by repeat (first | exact sget_here | refine sget_next (by (first | assumption | (apply Nq.en; assumption) | omega | (simp only [Nq] at *; omega))) ?_)) (fun _ => rfl)) rfl ?_ | refine lo (lop_load_el (E rfl) rfl (fun hc => by first | rfl | exact get_map (by assumption) | assumption | exact get_map (at_bang (by omega))) (fun _ => rfl)) rfl ?_
  refine lo (lop_not (E rfl)) rfl ?_
  refine lo (lop_move (E rfl)) rfl ?_
  first | refine ln rfl rfl rfl rfl ?_ | refine lg rfl rfl (lop_field_ptr (E rfl) rfl (by decide)) rfl ?_ | refine lg rfl rfl (lop_field_el (E rfl) rfl (by decide)) rfl ?_
  first | refine ln rfl rfl rfl rfl ?_ | refine lg rfl rfl (lop_load_ptr (W rfl id) rfl (by repeat (first | exact sget_here | refine sget_next (by (first | assumption | (apply Nq.en; assumption) | omega | (simp only [Nq] at *; omega))) ?_)) (fun _ => rfl)) rfl ?_ | refine lg rfl rfl (lop_load_el (W rfl id) rfl (fun hc => by first | rfl | exact get_map (by assumption) | assumption | exact get_map (at_bang (by (try simp at hc) <;> omega))) (fun _ => rfl)) rfl ?_
  first | refine ln rfl rfl rfl rfl ?_ | refine lg rfl rfl (lop_lss (W rfl id) (E rfl)) rfl ?_
  first | refine lo (lop_pick_t (E rfl) (E rfl)) rfl ?_ | refine lo (lop_pick_f (E rfl) (W rfl (by simp))) rfl ?_ | refine lo (lop_pick (E rfl) (E rfl) (W rfl (by simp))) rfl ?_
  refine lo (lop_move (E rfl)) rfl ?_
  first | refine ln rfl rfl rfl rfl ?_ | refine lg rfl rfl (lop_field_ptr (E rfl) rfl (by decide)) rfl ?_ | refine lg rfl rfl (lop_field_el (E rfl) rfl (by decide)) rfl ?_
  first | refine ln rfl rfl rfl rfl ?_ | refine lg rfl rfl (lop_load_ptr (W rfl id) rfl (by repeat (first | exact sget_here | refine sget_next (by (first | assumption | (apply Nq.en; assumption) | omega | (simp only [Nq] at *; omega))) ?_)) (fun _ => rfl)) rfl ?_ | refine lg rfl rfl (lop_load_el (W rfl id) rfl (fun hc => by first | rfl | exact get_map (by assumption) | assumption | exact get_map (at_bang (by (try simp at hc) <;> omega))) (fun _ => rfl)) rfl ?_
  first | refine ln rfl rfl rfl rfl ?_ | refine lg rfl rfl (lop_gtr (W rfl id) (E rfl)) rfl ?_
  first | refine lo (lop_pick_t (E rfl) (E rfl)) rfl ?_ | refine lo (lop_pick_f (E rfl) (W rfl (by simp))) rfl ?_ | refine lo (lop_pick (E rfl) (E rfl) (W rfl (by simp))) rfl ?_
  apply le; (repeat (first | (apply KeepIs.take; rfl) | (apply KeepIs.skip; rfl) | exact KeepIs.nil))
  (repeat (first | refine cs ?_ | refine cb ?_ | refine ck ?_ | refine cx ?_ | refine cr ?_ | refine an ?_ | refine ae ?_ | refine ar ?_ | refine bn ?_ | refine bh ?_ | refine be rfl ?_ | refine br ?_ | refine ct rfl ?_ | refine cf rfl ?_))
  refine sw_cond rfl (fun h2 => ?_) (fun _ => ?_)
  · exfalso
    simp at h2
    omega
  have e1 : IntKind.i64.wrap ((mn : Int) * 256) = ((256 * mn : Nat) : Int) := by rw [wrap_i64_of (by omega) (by omega)]; omega
  (repeat (first | refine cs ?_ | refine cb ?_ | refine ck ?_ | refine cx ?_ | refine cr ?_ | refine an ?_ | refine ae ?_ | refine ar ?_ | refine bn ?_ | refine bh ?_ | refine be rfl ?_ | refine br ?_ | refine ct rfl ?_ | refine cf rfl ?_))
  first | refine sw_seq_region ?_ | refine sw_region ?_
  first | refine lo (lop_field_ptr (E rfl) rfl (by decide)) rfl ?_ | refine lo (lop_field_el (E rfl) rfl (by decide)) rfl ?_
  first | refine lo (lop_load_ptr (E rfl) rfl (by repeat (first | exact sget_here | refine sget_next (by (first | assumption | (apply Nq.en; assumption) | omega | (simp only [Nq] at *; omega))) ?_)) (fun _ => rfl)) rfl ?_ | refine lo (lop_load_el (E rfl) rfl (fun hc => by first | rfl | exact get_map (by assumption) | assumption | exact get_map (at_bang (by omega))) (fun _ => rfl)) rfl ?_
  refine lo (lop_mul (E rfl) (E rfl)) rfl ?_
  rw [e1]
  apply mk (l := 256 * mn) (z := encU 0); rfl; rfl; rfl; rfl
  · omega
  · simp [maxLen]; omega
  · rfl
  · rfl
  intro r20 h20; simp only [fresh_cons, fresh_nil, and_true] at h20; (repeat (rcases h20 with ⟨_, h20⟩))
  rw [← show (List.replicate (256 * mn) 0).map encU = List.replicate (256 * mn) (encU 0) by simp]
  refine lo (lop_str (by repeat (first | exact PEvs.nil | (apply PEvs.cons; first | exact W rfl id | exact E rfl))) (by (first | (simp only [Value.cells, AV.cells, List.map_cons, List.map_nil, ofConst, ofCell]; rfl) | rfl)) (by repeat (first | exact Fill.nil | (apply Fill.cons; rfl; rfl; rfl; (repeat (first | exact Put.done | apply Put.put | apply Put.skip)))))) rfl ?_
  apply bx; rfl; rfl; (first | (simp only [Value.cells, AV.cells, List.map_cons, List.map_nil, ofConst, ofCell]; rfl) | rfl); rfl; intro r22 h22; simp only [fresh_cons, fresh_nil, and_true] at h22; (repeat (rcases h22 with ⟨_, h22⟩))
  refine lo (lop_assign (E rfl)) rfl ?_
  apply le; (repeat (first | (apply KeepIs.take; rfl) | (apply KeepIs.skip; rfl) | exact KeepIs.nil))
  refine an ?_
  refine sw_virt_box (ks := [0, 1, 2, 3, 16, 25]) r22 2 3 1 (by decide) (by repeat (first | exact sget_here | refine sget_next (by (first | assumption | (apply Nq.en; assumption) | omega | (simp only [Nq] at *; omega))) ?_)) rfl (by decide) fun d hd => ?_
  simp only [fresh_cons, fresh_nil, and_true] at hd; (repeat (rcases hd with ⟨_, hd⟩))
  apply Exists.intro; apply And.intro; (repeat (first | (apply SSet.here; (repeat (first | exact Fresh.nil | (apply Fresh.cons; (first | assumption | (apply Nq.en; assumption) | omega | (simp only [Nq] at *; omega)))))) | (apply SSet.next; (first | assumption | (apply Nq.en; assumption) | omega | (simp only [Nq] at *; omega)))))
  (repeat (first | refine cs ?_ | refine cb ?_ | refine ck ?_ | refine cx ?_ | refine cr ?_ | refine an ?_ | refine ae ?_ | refine ar ?_ | refine bn ?_ | refine bh ?_ | refine be rfl ?_ | refine br ?_ | refine ct rfl ?_ | refine cf rfl ?_))
  first | refine sw_seq_region ?_ | refine sw_region ?_
  first | refine lo (lop_field_ptr (E rfl) rfl (by decide)) rfl ?_ | refine lo (lop_field_el (E rfl) rfl (by decide)) rfl ?_
  first | refine lo (lop_load_ptr (E rfl) rfl (by repeat (first | exact sget_here | refine sget_next (by (first | assumption | (apply Nq.en; assumption) | omega | (simp only [Nq] at *; omega))) ?_)) (fun _ => rfl)) rfl ?_ | refine lo (lop_load_el (E rfl) rfl (fun hc => by first | rfl | exact get_map (by assumption) | assumption | exact get_map (at_bang (by omega))) (fun _ => rfl)) rfl ?_
  refine lo (lop_neq (E rfl) (E rfl)) rfl ?_
  apply le; (repeat (first | (apply KeepIs.take; rfl) | (apply KeepIs.skip; rfl) | exact KeepIs.nil))
  (repeat (first | refine cs ?_ | refine cb ?_ | refine ck ?_ | refine cx ?_ | refine cr ?_ | refine an ?_ | refine ae ?_ | refine ar ?_ | refine bn ?_ | refine bh ?_ | refine be rfl ?_ | refine br ?_ | refine ct rfl ?_ | refine cf rfl ?_))
  refine sw_cond rfl (fun h2 => ?_) (fun h2 => ?_)
  · have hm : newMo mx = if (if mx < 16 then mx else 16) < -1 then -1 else if mx < 16 then mx else 16 := by
      unfold newMo
      rw [if_neg (fun e => by rw [e] at h2; simp at h2)]
      simp only [Int.max_def, Int.min_def]
      (repeat' split) <;> omega
    (repeat (first | refine cs ?_ | refine cb ?_ | refine ck ?_ | refine cx ?_ | refine cr ?_ | refine an ?_ | refine ae ?_ | refine ar ?_ | refine bn ?_ | refine bh ?_ | refine be rfl ?_ | refine br ?_ | refine ct rfl ?_ | refine cf rfl ?_))
    first | refine sw_seq_drawn [(0, true), (1, true), (2, true), (3, true), (4, true), (5, true), (6, true), (7, true), (8, true), (9, true), (10, true), (11, false)] mixed (by kernel_rfl) (by kernel_rfl) ?_ | refine sw_region_drawn [(0, true), (1, true), (2, true), (3, true), (4, true), (5, true), (6, true), (7, true), (8, true), (9, true), (10, true), (11, false)] mixed (by kernel_rfl) (by kernel_rfl) ?_
    refine dlo rfl (lop_move (E rfl)) rfl ?_
    refine dlo rfl (lop_move (E rfl)) rfl ?_
    first | refine dlo rfl (lop_nilCheck (E rfl) (.inl ⟨_, _, rfl⟩)) rfl ?_ | refine dlo rfl (lop_nilCheck (E rfl) (.inr (.inl ⟨_, _, _, rfl⟩))) rfl ?_ | refine dlo rfl (lop_nilCheck (E rfl) (.inr (.inr ⟨_, _, _, _, rfl⟩))) rfl ?_
    first | refine dlo rfl (lop_field_ptr (E rfl) rfl (by decide)) rfl ?_ | refine dlo rfl (lop_field_el (E rfl) rfl (by decide)) rfl ?_
    first | refine dlo rfl (lop_load_ptr (E rfl) rfl (by repeat (first | exact sget_here | refine sget_next (by (first | assumption | (apply Nq.en; assumption) | omega | (simp only [Nq] at *; omega))) ?_)) (fun _ => rfl)) rfl ?_ | refine dlo rfl (lop_load_el (E rfl) rfl (fun hc => by first | rfl | exact get_map (by assumption) | assumption | exact get_map (at_bang (by omega))) (fun _ => rfl)) rfl ?_
    first | refine dlo rfl (lop_field_ptr (E rfl) rfl (by decide)) rfl ?_ | refine dlo rfl (lop_field_el (E rfl) rfl (by decide)) rfl ?_
    first | refine dlo rfl (lop_load_ptr (E rfl) rfl (by repeat (first | exact sget_here | refine sget_next (by (first | assumption | (apply Nq.en; assumption) | omega | (simp only [Nq] at *; omega))) ?_)) (fun _ => rfl)) rfl ?_ | refine dlo rfl (lop_load_el (E rfl) rfl (fun hc => by first | rfl | exact get_map (by assumption) | assumption | exact get_map (at_bang (by omega))) (fun _ => rfl)) rfl ?_
    refine dlo rfl (lop_min (E rfl) (E rfl)) rfl ?_
    refine dlo rfl (lop_max (E rfl) (E rfl)) rfl ?_
    first | refine dlo rfl (lop_nilCheck (E rfl) (.inl ⟨_, _, rfl⟩)) rfl ?_ | refine dlo rfl (lop_nilCheck (E rfl) (.inr (.inl ⟨_, _, _, rfl⟩))) rfl ?_ | refine dlo rfl (lop_nilCheck (E rfl) (.inr (.inr ⟨_, _, _, _, rfl⟩))) rfl ?_
    first | refine dlo rfl (lop_field_ptr (E rfl) rfl (by decide)) rfl ?_ | refine dlo rfl (lop_field_el (E rfl) rfl (by decide)) rfl ?_
    apply dstp; rfl; infer_instance; rfl; rfl; rfl; rfl; (repeat (first | (apply SPut.here; (repeat (first | exact Put.done | apply Put.put | apply Put.skip)); (repeat (first | exact Fresh.nil | (apply Fresh.cons; (first | assumption | (apply Nq.en; assumption) | omega | (simp only [Nq] at *; omega)))))) | (apply SPut.next; (first | assumption | (apply Nq.en; assumption) | omega | (simp only [Nq] at *; omega))))); (repeat (first | exact HB.nil | apply HB.none | (apply HB.ok; focus (simp only [List.mem_cons, List.not_mem_nil, or_false, List.map_cons, List.map_nil, forall_eq_or_imp, forall_eq, true_or, or_true, true_and, not_or]; (repeat' (first | apply And.intro | (first | assumption | (apply Nq.en; assumption) | omega | (simp only [Nq] at *; omega)))); done)) | (apply HB.waits; kernel_rfl)))
    apply de; (repeat (first | (apply KeepIs.take; rfl) | (apply KeepIs.skip; rfl) | exact KeepIs.nil))
    (repeat (first | refine cs ?_ | refine cb ?_ | refine ck ?_ | refine cx ?_ | refine cr ?_ | refine an ?_ | refine ae ?_ | refine ar ?_ | refine bn ?_ | refine bh ?_ | refine be rfl ?_ | refine br ?_ | refine ct rfl ?_ | refine cf rfl ?_))
    first | refine sw_seq_region ?_ | refine sw_region ?_
    refine lo (lop_move (E rfl)) rfl ?_
    refine lo (lop_assign (E rfl)) rfl ?_
    apply le; (repeat (first | (apply KeepIs.take; rfl) | (apply KeepIs.skip; rfl) | exact KeepIs.nil))
    (repeat (first | refine cs ?_ | refine cb ?_ | refine ck ?_ | refine cx ?_ | refine cr ?_ | refine an ?_ | refine ae ?_ | refine ar ?_ | refine bn ?_ | refine bh ?_ | refine be rfl ?_ | refine br ?_ | refine ct rfl ?_ | refine cf rfl ?_))
    (apply aend; (repeat (first | exact ResL.nil | (apply ResL.tmp; rfl) | (apply ResL.cell; rfl; infer_instance; rfl; (repeat (first | exact sget_here | (apply sget_next; (first | assumption | (apply Nq.en; assumption) | omega | (simp only [Nq] at *; omega))))); rfl) | (apply ResL.cells; rfl; infer_instance; infer_instance; rfl; (repeat (first | exact sget_here | (apply sget_next; (first | assumption | (apply Nq.en; assumption) | omega | (simp only [Nq] at *; omega))))); exact Nat.le_of_ble_eq_true rfl))))
    · exact ⟨r22, r20, d, ⟨by (first | assumption | (apply Nq.en; assumption) | omega | (simp only [Nq] at *; omega)), by (first | assumption | (apply Nq.en; assumption) | omega | (simp only [Nq] at *; omega)), by (first | assumption | (apply Nq.en; assumption) | omega | (simp only [Nq] at *; omega))⟩, rfl, rfl⟩
    · rw [hm, List.length_replicate]
      (first | exact no_mem | exact (fun _ h => h) | (apply StLe.mem; (repeat (first | exact StLe.nil | (apply StLe.cons; (repeat (first | exact List.mem_cons_self | apply List.mem_cons_of_mem)); first | rfl | focus (congr 1; done) | focus (simp; done) | (simp; rfl))))))
  · have hm : newMo mx = 16 := by
      unfold newMo
      rw [if_pos]
      simpa using h2
    (repeat (first | refine cs ?_ | refine cb ?_ | refine ck ?_ | refine cx ?_ | refine cr ?_ | refine an ?_ | refine ae ?_ | refine ar ?_ | refine bn ?_ | refine bh ?_ | refine be rfl ?_ | refine br ?_ | refine ct rfl ?_ | refine cf rfl ?_))
    first | refine sw_seq_region ?_ | refine sw_region ?_
    refine lo (lop_move (E rfl)) rfl ?_
    refine lo (lop_assign (E rfl)) rfl ?_
    apply le; (repeat (first | (apply KeepIs.take; rfl) | (apply KeepIs.skip; rfl) | exact KeepIs.nil))
    (repeat (first | refine cs ?_ | refine cb ?_ | refine ck ?_ | refine cx ?_ | refine cr ?_ | refine an ?_ | refine ae ?_ | refine ar ?_ | refine bn ?_ | refine bh ?_ | refine be rfl ?_ | refine br ?_ | refine ct rfl ?_ | refine cf rfl ?_))
    (apply aend; (repeat (first | exact ResL.nil | (apply ResL.tmp; rfl) | (apply ResL.cell; rfl; infer_instance; rfl; (repeat (first | exact sget_here | (apply sget_next; (first | assumption | (apply Nq.en; assumption) | omega | (simp only [Nq] at *; omega))))); rfl) | (apply ResL.cells; rfl; infer_instance; infer_instance; rfl; (repeat (first | exact sget_here | (apply sget_next; (first | assumption | (apply Nq.en; assumption) | omega | (simp only [Nq] at *; omega))))); exact Nat.le_of_ble_eq_true rfl))))
    · exact ⟨r22, r20, d, ⟨by (first | assumption | (apply Nq.en; assumption) | omega | (simp only [Nq] at *; omega)), by (first | assumption | (apply Nq.en; assumption) | omega | (simp only [Nq] at *; omega)), by (first | assumption | (apply Nq.en; assumption) | omega | (simp only [Nq] at *; omega))⟩, rfl, rfl⟩
    · rw [hm, List.length_replicate]
      (first | exact no_mem | exact (fun _ h => h) | (apply StLe.mem; (repeat (first | exact StLe.nil | (apply StLe.cons; (repeat (first | exact List.mem_cons_self | apply List.mem_cons_of_mem)); first | rfl | focus (congr 1; done) | focus (simp; done) | (simp; rfl))))))
section
variable {m q d p : Nat}
set_option maxRecDepth 100000 in
theorem mem_setpage (hN : Nq q m ∧ Nq d m ∧ Nq d q) (hP : Nq p m ∧ Nq p q ∧ Nq p d) (b : List Nat) (mo : Int) (dl : List Int) (hb : b.length ≤ 100000) (hdl : dl.length ≤ 10000) (hs : dl.Pairwise (· < ·)) (pl : List Nat) (hpl : pl.length = 256) (i : Nat) (h' : i < b.length / 256) : SCall Try.prog 19 [.ptr m 0, .int .i64 i, .own p 0 256] [(p, .arr 5 1 (pl.map encU)), (m, .box 54 [.own q 0 b.length, .int .i64 mo, .own d 0 dl.length]), (q, .arr 5 1 (b.map encU)), (d, .arr 3 1 (dl.map encI))]
    (fun x σ => ∃ e, (Nq e m ∧ Nq e q ∧ Nq e p) ∧ x = .bool true ∧ σ = [(p, .arr 5 1 (pl.map encU)), (m, .box 54 [.own q 0 (setPg b i pl).length, .int .i64 mo, .own e 0 (touchL dl i).length]), (q, .arr 5 1 ((setPg b i pl).map encU)), (e, .arr 3 1 ((touchL dl i).map encI))]) := by
  obtain ⟨hN1, hN2, hN3⟩ := hN
  obtain ⟨hP1, hP2, hP3⟩ := hP
  refine scall_of (n := 32) (ks := [0, 1, 2, 6, 19]) Try.func19 rfl rfl (Nat.le_of_ble_eq_true rfl) ?_
  (repeat (first | refine cs ?_ | refine cb ?_ | refine ck ?_ | refine cx ?_ | refine cr ?_ | refine an ?_ | refine ae ?_ | refine ar ?_ | refine bn ?_ | refine bh ?_ | refine be rfl ?_ | refine br ?_ | refine ct rfl ?_ | refine cf rfl ?_))
  first | refine sw_seq_region ?_ | refine sw_region ?_
  refine lo (lop_assign (E rfl)) rfl ?_
  apply le; (repeat (first | (apply KeepIs.take; rfl) | (apply KeepIs.skip; rfl) | exact KeepIs.nil))
  (repeat (first | refine cs ?_ | refine cb ?_ | refine ck ?_ | refine cx ?_ | refine cr ?_ | refine an ?_ | refine ae ?_ | refine ar ?_ | refine bn ?_ | refine bh ?_ | refine be rfl ?_ | refine br ?_ | refine ct rfl ?_ | refine cf rfl ?_))
  first | refine sw_seq_region ?_ | refine sw_region ?_
  refine lo (lop_move (E rfl)) rfl ?_
  refine lo (lop_lss (E rfl) (E rfl)) rfl ?_
  refine lo (lop_move (E rfl)) rfl ?_
  first | refine ln rfl rfl rfl rfl ?_ | refine lg rfl rfl (lop_move (E rfl)) rfl ?_
  first | refine ln rfl rfl rfl rfl ?_ | refine lg rfl rfl (lop_move (E rfl)) rfl ?_
  refine pug [m, q, d] rfl rfl Try.call16 (fun _ => mem_pages b mo dl (by omega)) rfl ?_ (by repeat (first | exact NoF.int | exact NoF.bool | exact NoF.nilp | exact NoF.nil | exact NoF.own | exact NoF.ptr | exact NoF.str | exact nofl_nil | apply NoF.tup | apply NoF.agg | apply nofl_cons)) ?_
  · (repeat (
       first
        | exact ArgsIf.nil
        | (apply ArgsIf.cons; (
         first
          | exact W rfl id
          | exact W rfl (fun _ => rfl)
          | exact E rfl); (
         first
          | exact Bor.refl _
          | exact Bor.le VLe.any
          | exact Bor.le VLe.empty
          | (apply bown; (repeat (
            first
             | exact List.mem_cons_self
             | apply List.mem_cons_of_mem)); (repeat (
            first
             | exact sget_here
             | (apply sget_next; (
              first
               | assumption
               | (apply Nq.en; assumption)
               | omega
               | (simp only [Nq] at *; omega))))); (
           first
            | focus (simp; done)
            | omega
            | focus (simp; omega)); (
           first
            | rfl
            | focus (simp; done)
            | focus (exact List.take_of_length_le (by
             first
              | (simp; done)
              | (simp; omega)))))
          | focus (apply bbox; (repeat (
            first
             | exact List.mem_cons_self
             | apply List.mem_cons_of_mem)); (repeat (
            first
             | exact sget_here
             | (apply sget_next; (
              first
               | assumption
               | (apply Nq.en; assumption)
               | omega
               | (simp only [Nq] at *; omega))))); rfl; rfl; (repeat (
            first
             | exact BorL.nil
             | (apply BorL.cons; (
              first
               | exact Bor.refl _
               | exact Bor.le VLe.any
               | exact Bor.le VLe.empty
               | (apply bown; (repeat (
                 first
                  | exact List.mem_cons_self
                  | apply List.mem_cons_of_mem)); (repeat (
                 first
                  | exact sget_here
                  | (apply sget_next; (
                   first
                    | assumption
                    | (apply Nq.en; assumption)
                    | omega
                    | (simp only [Nq] at *; omega))))); (
                first
                 | focus (simp; done)
                 | omega); (
                first
                 | rfl
                 | focus (simp; done)
                 | focus (exact List.take_of_length_le (by
                  first
                   | (simp; done)
                   | (simp; omega)))))
               | focus (apply Bor.le; apply VLe.of_eq; simp; done))))); done)
          | focus (apply bagg; (repeat (
            first
             | exact BorL.nil
             | (apply BorL.cons; (
              first
               | exact Bor.refl _
               | exact Bor.le VLe.any
               | exact Bor.le VLe.empty
               | (apply bown; (repeat (
                 first
                  | exact List.mem_cons_self
                  | apply List.mem_cons_of_mem)); (repeat (
                 first
                  | exact sget_here
                  | (apply sget_next; (
                   first
                    | assumption
                    | (apply Nq.en; assumption)
                    | omega
                    | (simp only [Nq] at *; omega))))); (
                first
                 | focus (simp; done)
                 | omega); (
                first
                 | rfl
                 | focus (simp; done)
                 | focus (exact List.take_of_length_le (by
                  first
                   | (simp; done)
                   | (simp; omega)))))
               | focus (apply Bor.le; apply VLe.of_eq; simp; done))))); done)
          | focus (apply Bor.le; apply VLe.of_eq; simp; done)))))
  first | refine ln rfl rfl rfl rfl ?_ | refine lg rfl rfl (lop_geq (W rfl id) (by first | exact W rfl id | exact E rfl)) rfl ?_
  first | refine lo (lop_pick_t (E rfl) (E rfl)) rfl ?_ | refine lo (lop_pick_f (E rfl) (W rfl (by simp))) rfl ?_ | refine lo (lop_pick (E rfl) (E rfl) (W rfl (by simp))) rfl ?_
  refine lo (lop_move (E rfl)) rfl ?_
  first | refine ln rfl rfl rfl rfl ?_ | refine lg rfl rfl (lop_move (E rfl)) rfl ?_
  first | refine ln rfl rfl rfl rfl ?_ | refine lg rfl rfl (lop_len_map (W rfl id)) rfl ?_ | refine lg rfl rfl (lop_len_ro (W rfl id)) rfl ?_ | refine lg rfl rfl (lop_len_own (W rfl id)) rfl ?_
  first | refine ln rfl rfl rfl rfl ?_ | refine lg rfl rfl (lop_neq (W rfl id) (E rfl)) rfl ?_
  first | refine lo (lop_pick_t (E rfl) (E rfl)) rfl ?_ | refine lo (lop_pick_f (E rfl) (W rfl (by simp))) rfl ?_ | refine lo (lop_pick (E rfl) (E rfl) (W rfl (by simp))) rfl ?_
  apply le; (repeat (first | (apply KeepIs.take; rfl) | (apply KeepIs.skip; rfl) | exact KeepIs.nil))
  (repeat (first | refine cs ?_ | refine cb ?_ | refine ck ?_ | refine cx ?_ | refine cr ?_ | refine an ?_ | refine ae ?_ | refine ar ?_ | refine bn ?_ | refine bh ?_ | refine be rfl ?_ | refine br ?_ | refine ct rfl ?_ | refine cf rfl ?_))
  rw [show (if decide (((b.length / 256 : Nat) : Int) ≤ i) = true then true else (((256 : Nat) : Int) != 256)) = false by rw [decide_eq_false (by omega)]; rfl]
  have e1 : IntKind.i64.wrap ((i : Int) * 256) = ((256 * i : Nat) : Int) := by rw [wrap_i64_of (by omega) (by omega)]; omega
  have hsl := setPg_len h' hpl
  have htk : List.map encU pl = List.take 256 (List.map encU pl) := by rw [List.take_of_length_le (by simp [hpl])]
  (repeat (first | refine cs ?_ | refine cb ?_ | refine ck ?_ | refine cx ?_ | refine cr ?_ | refine an ?_ | refine ae ?_ | refine ar ?_ | refine bn ?_ | refine bh ?_ | refine be rfl ?_ | refine br ?_ | refine ct rfl ?_ | refine cf rfl ?_))
  first | refine sw_seq_region ?_ | refine sw_region ?_
  refine lo (lop_move (E rfl)) rfl ?_
  first | refine lo (lop_nilCheck (E rfl) (.inl ⟨_, _, rfl⟩)) rfl ?_ | refine lo (lop_nilCheck (E rfl) (.inr (.inl ⟨_, _, _, rfl⟩))) rfl ?_ | refine lo (lop_nilCheck (E rfl) (.inr (.inr ⟨_, _, _, _, rfl⟩))) rfl ?_
  first | refine lo (lop_field_ptr (E rfl) rfl (by decide)) rfl ?_ | refine lo (lop_field_el (E rfl) rfl (by decide)) rfl ?_
  first | refine lo (lop_load_ptr (E rfl) rfl (by repeat (first | exact sget_here | refine sget_next (by (first | assumption | (apply Nq.en; assumption) | omega | (simp only [Nq] at *; omega))) ?_)) (fun _ => rfl)) rfl ?_ | refine lo (lop_load_el (E rfl) rfl (fun hc => by first | rfl | exact get_map (by assumption) | assumption | exact get_map (at_bang (by omega))) (fun _ => rfl)) rfl ?_
  refine lo (lop_move (E rfl)) rfl ?_
  refine lo (lop_mul (E rfl) (E rfl)) rfl ?_
  rw [e1]
  first | refine lo (lop_slice_ro (E rfl) (OB.some (E rfl) (fun _ => by first | rfl | exact (Int.toNat_of_nonneg (by omega)).symm)) OB.none (fun _ => by first | (simp only [List.length_map]; omega) | omega)) rfl ?_ | refine lo (lop_slice_own (E rfl) (by repeat (first | exact sget_here | refine sget_next (by (first | assumption | (apply Nq.en; assumption) | omega | (simp only [Nq] at *; omega))) ?_)) (OB.some (E rfl) (fun _ => by first | rfl | exact (Int.toNat_of_nonneg (by omega)).symm)) OB.none (fun _ => by first | (simp only [List.length_map]; omega) | omega)) rfl ?_
  refine lo (lop_move (E rfl)) rfl ?_
  apply cp (m := 256) (es' := (setPg b i pl).map encU) (ys := pl.map encU); rfl; (repeat (first | (apply SSet.here; (repeat (first | exact Fresh.nil | (apply Fresh.cons; (first | assumption | (apply Nq.en; assumption) | omega | (simp only [Nq] at *; omega)))))) | (apply SSet.next; (first | assumption | (apply Nq.en; assumption) | omega | (simp only [Nq] at *; omega)))))
  · simp; omega
  · exact .inr (.inr ⟨_, _, _, _, _, rfl, (by repeat (first | exact sget_here | refine sget_next (by (first | assumption | (apply Nq.en; assumption) | omega | (simp only [Nq] at *; omega))) ?_)), by simp [hpl], by rw [List.drop_zero]; exact htk⟩)
  · simp [hpl]; omega
  · simp only [setPg, List.map_append, List.map_take, List.map_drop, Int.toNat_natCast]
    rw [← htk, Nat.zero_add]
  · rfl
  apply le; (repeat (first | (apply KeepIs.take; rfl) | (apply KeepIs.skip; rfl) | exact KeepIs.nil))
  (repeat (first | refine cs ?_ | refine cb ?_ | refine ck ?_ | refine cx ?_ | refine cr ?_ | refine an ?_ | refine ae ?_ | refine ar ?_ | refine bn ?_ | refine bh ?_ | refine be rfl ?_ | refine br ?_ | refine ct rfl ?_ | refine cf rfl ?_))
  first | refine sw_seq_region ?_ | refine sw_region ?_
  refine lo (lop_move (E rfl)) rfl ?_
  refine lo (lop_move (E rfl)) rfl ?_
  rw [← hsl]
  refine cw [(m, .box 54 [.own q 0 (setPg b i pl).length, .int .i64 (mo), .own d 0 (dl).length]), (q, .arr 5 1 ((setPg b i pl).map encU)), (d, .arr 3 1 ((dl).map encI))] Try.call23 (mem_touch ⟨hN1, hN2, hN3⟩ (setPg b i pl) mo dl (by omega) hs i) rfl ?_ ?_ ?_
  · (repeat (first | exact ArgsLe.nil | (apply ArgsLe.cons; rfl; first | exact VLe.refl _ | exact VLe.when rfl | exact VLe.any | exact VLe.empty | exact VLe.of_eq (by simp))))
  · (first | exact no_mem | exact (fun _ h => h) | (apply StLe.mem; (repeat (first | exact StLe.nil | (apply StLe.cons; (repeat (first | exact List.mem_cons_self | apply List.mem_cons_of_mem)); first | rfl | focus (congr 1; done) | focus (simp; done) | (simp; rfl))))))
  rintro y σ' ⟨e, ⟨he1, he2⟩, rfl⟩ he
  have hz := fresh_rest (he _ (List.mem_cons_of_mem _ (List.mem_cons_of_mem _ List.mem_cons_self))); simp (disch := (first | (simp only [List.mem_cons, List.not_mem_nil, true_or, or_true, or_false]; done) | (focus (simp only [List.mem_cons, List.not_mem_nil, or_false, not_or]; (repeat' (first | apply And.intro | (first | assumption | (apply Nq.en; assumption) | omega | (simp only [Nq] at *; omega)))); done)) | omega)) only [List.map_cons, List.map_nil, sdrop_none, sdrop_nil, sdrop_in, sdrop_out, fresh_cons, fresh_nil, and_true] at hz; (repeat (rcases hz with ⟨_, hz⟩))
  (apply rs_sto; (first | (simp (disch := (first | (simp only [List.mem_cons, List.not_mem_nil, true_or, or_true, or_false]; done) | (focus (simp only [List.mem_cons, List.not_mem_nil, or_false, not_or]; (repeat' (first | apply And.intro | (first | assumption | (apply Nq.en; assumption) | omega | (simp only [Nq] at *; omega)))); done)) | omega)) only [↓put_σ, ↓mk_σ, AV.cells, sset, sdrop_none, sdrop_nil, sdrop_in, sdrop_out, List.nil_append, List.cons_append, List.append_nil, List.map_nil, List.map_cons, List.take_succ_cons, List.take_zero, List.drop_succ_cons, List.drop_zero, take_len', take_map_len, Nat.zero_add, Nat.add_zero, ofCell, ofConst]; rfl) | rfl))
  apply le; (repeat (first | (apply KeepIs.take; rfl) | (apply KeepIs.skip; rfl) | exact KeepIs.nil))
  (repeat (first | refine cs ?_ | refine cb ?_ | refine ck ?_ | refine cx ?_ | refine cr ?_ | refine an ?_ | refine ae ?_ | refine ar ?_ | refine bn ?_ | refine bh ?_ | refine be rfl ?_ | refine br ?_ | refine ct rfl ?_ | refine cf rfl ?_))
  first | refine sw_seq_region ?_ | refine sw_region ?_
  refine lo (lop_assign (E rfl)) rfl ?_
  apply le; (repeat (first | (apply KeepIs.take; rfl) | (apply KeepIs.skip; rfl) | exact KeepIs.nil))
  (repeat (first | refine cs ?_ | refine cb ?_ | refine ck ?_ | refine cx ?_ | refine cr ?_ | refine an ?_ | refine ae ?_ | refine ar ?_ | refine bn ?_ | refine bh ?_ | refine be rfl ?_ | refine br ?_ | refine ct rfl ?_ | refine cf rfl ?_))
  (apply aend; (repeat (first | exact ResL.nil | (apply ResL.tmp; rfl) | (apply ResL.cell; rfl; infer_instance; rfl; (repeat (first | exact sget_here | (apply sget_next; (first | assumption | (apply Nq.en; assumption) | omega | (simp only [Nq] at *; omega))))); rfl) | (apply ResL.cells; rfl; infer_instance; infer_instance; rfl; (repeat (first | exact sget_here | (apply sget_next; (first | assumption | (apply Nq.en; assumption) | omega | (simp only [Nq] at *; omega))))); exact Nat.le_of_ble_eq_true rfl))))
  · exact ⟨e, ⟨he1, he2, by (first | assumption | (apply Nq.en; assumption) | omega | (simp only [Nq] at *; omega))⟩, rfl, rfl⟩
  · (first | exact no_mem | exact (fun _ h => h) | (apply StLe.mem; (repeat (first | exact StLe.nil | (apply StLe.cons; (repeat (first | exact List.mem_cons_self | apply List.mem_cons_of_mem)); first | rfl | focus (congr 1; done) | focus (simp; done) | (simp; rfl))))))
set_option maxRecDepth 100000 in
theorem mem_setpage_no (hN : Nq q m ∧ Nq d m ∧ Nq d q) (hP : Nq p m ∧ Nq p q ∧ Nq p d) (b : List Nat) (mo : Int) (dl : List Int) (hb : b.length ≤ 100000) (len : Nat) (pl : List Nat) (hpl : len ≤ pl.length) (i : Int) (h' : i < 0 ∨ ((b.length / 256 : Nat) : Int) ≤ i ∨ len ≠ 256) : SCall Try.prog 19 [.ptr m 0, .int .i64 i, .own p 0 len] [(p, .arr 5 1 (pl.map encU)), (m, .box 54 [.own q 0 b.length, .int .i64 mo, .own d 0 dl.length]), (q, .arr 5 1 (b.map encU)), (d, .arr 3 1 (dl.map encI))]
    (fun x σ => x = .bool false ∧ σ = [(p, .arr 5 1 (pl.map encU)), (m, .box 54 [.own q 0 b.length, .int .i64 mo, .own d 0 dl.length]), (q, .arr 5 1 (b.map encU)), (d, .arr 3 1 (dl.map encI))]) := by
  obtain ⟨hN1, hN2, hN3⟩ := hN
  obtain ⟨hP1, hP2, hP3⟩ := hP
  refine scall_of (n := 32) (ks := [0, 1, 2, 6, 19]) Try.func19 rfl rfl (Nat.le_of_ble_eq_true rfl) ?_
  (repeat (first | refine cs ?_ | refine cb ?_ | refine ck ?_ | refine cx ?_ | refine cr ?_ | refine an ?_ | refine ae ?_ | refine ar ?_ | refine bn ?_ | refine bh ?_ | refine be rfl ?_ | refine br ?_ | refine ct rfl ?_ | refine cf rfl ?_))
  first | refine sw_seq_region ?_ | refine sw_region ?_
  refine lo (lop_assign (E rfl)) rfl ?_
  apply le; (repeat (first | (apply KeepIs.take; rfl) | (apply KeepIs.skip; rfl) | exact KeepIs.nil))
  (repeat (first | refine cs ?_ | refine cb ?_ | refine ck ?_ | refine cx ?_ | refine cr ?_ | refine an ?_ | refine ae ?_ | refine ar ?_ | refine bn ?_ | refine bh ?_ | refine be rfl ?_ | refine br ?_ | refine ct rfl ?_ | refine cf rfl ?_))
  first | refine sw_seq_region ?_ | refine sw_region ?_
  refine lo (lop_move (E rfl)) rfl ?_
  refine lo (lop_lss (E rfl) (E rfl)) rfl ?_
  refine lo (lop_move (E rfl)) rfl ?_
  first | refine ln rfl rfl rfl rfl ?_ | refine lg rfl rfl (lop_move (E rfl)) rfl ?_
  first | refine ln rfl rfl rfl rfl ?_ | refine lg rfl rfl (lop_move (E rfl)) rfl ?_
  refine pug [m, q, d] rfl rfl Try.call16 (fun _ => mem_pages b mo dl (by omega)) rfl ?_ (by repeat (first | exact NoF.int | exact NoF.bool | exact NoF.nilp | exact NoF.nil | exact NoF.own | exact NoF.ptr | exact NoF.str | exact nofl_nil | apply NoF.tup | apply NoF.agg | apply nofl_cons)) ?_
  · (repeat (
       first
        | exact ArgsIf.nil
        | (apply ArgsIf.cons; (
         first
          | exact W rfl id
          | exact W rfl (fun _ => rfl)
          | exact E rfl); (
         first
          | exact Bor.refl _
          | exact Bor.le VLe.any
          | exact Bor.le VLe.empty
          | (apply bown; (repeat (
            first
             | exact List.mem_cons_self
             | apply List.mem_cons_of_mem)); (repeat (
            first
             | exact sget_here
             | (apply sget_next; (
              first
               | assumption
               | (apply Nq.en; assumption)
               | omega
               | (simp only [Nq] at *; omega))))); (
           first
            | focus (simp; done)
            | omega
            | focus (simp; omega)); (
           first
            | rfl
            | focus (simp; done)
            | focus (exact List.take_of_length_le (by
             first
              | (simp; done)
              | (simp; omega)))))
          | focus (apply bbox; (repeat (
            first
             | exact List.mem_cons_self
             | apply List.mem_cons_of_mem)); (repeat (
            first
             | exact sget_here
             | (apply sget_next; (
              first
               | assumption
               | (apply Nq.en; assumption)
               | omega
               | (simp only [Nq] at *; omega))))); rfl; rfl; (repeat (
            first
             | exact BorL.nil
             | (apply BorL.cons; (
              first
               | exact Bor.refl _
               | exact Bor.le VLe.any
               | exact Bor.le VLe.empty
               | (apply bown; (repeat (
                 first
                  | exact List.mem_cons_self
                  | apply List.mem_cons_of_mem)); (repeat (
                 first
                  | exact sget_here
                  | (apply sget_next; (
                   first
                    | assumption
                    | (apply Nq.en; assumption)
                    | omega
                    | (simp only [Nq] at *; omega))))); (
                first
                 | focus (simp; done)
                 | omega); (
                first
                 | rfl
                 | focus (simp; done)
                 | focus (exact List.take_of_length_le (by
                  first
                   | (simp; done)
                   | (simp; omega)))))
               | focus (apply Bor.le; apply VLe.of_eq; simp; done))))); done)
          | focus (apply bagg; (repeat (
            first
             | exact BorL.nil
             | (apply BorL.cons; (
              first
               | exact Bor.refl _
               | exact Bor.le VLe.any
               | exact Bor.le VLe.empty
               | (apply bown; (repeat (
                 first
                  | exact List.mem_cons_self
                  | apply List.mem_cons_of_mem)); (repeat (
                 first
                  | exact sget_here
                  | (apply sget_next; (
                   first
                    | assumption
                    | (apply Nq.en; assumption)
                    | omega
                    | (simp only [Nq] at *; omega))))); (
                first
                 | focus (simp; done)
                 | omega); (
                first
                 | rfl
                 | focus (simp; done)
                 | focus (exact List.take_of_length_le (by
                  first
                   | (simp; done)
                   | (simp; omega)))))
               | focus (apply Bor.le; apply VLe.of_eq; simp; done))))); done)
          | focus (apply Bor.le; apply VLe.of_eq; simp; done)))))
  first | refine ln rfl rfl rfl rfl ?_ | refine lg rfl rfl (lop_geq (W rfl id) (by first | exact W rfl id | exact E rfl)) rfl ?_
  first | refine lo (lop_pick_t (E rfl) (E rfl)) rfl ?_ | refine lo (lop_pick_f (E rfl) (W rfl (by simp))) rfl ?_ | refine lo (lop_pick (E rfl) (E rfl) (W rfl (by simp))) rfl ?_
  refine lo (lop_move (E rfl)) rfl ?_
  first | refine ln rfl rfl rfl rfl ?_ | refine lg rfl rfl (lop_move (E rfl)) rfl ?_
  first | refine ln rfl rfl rfl rfl ?_ | refine lg rfl rfl (lop_len_map (W rfl id)) rfl ?_ | refine lg rfl rfl (lop_len_ro (W rfl id)) rfl ?_ | refine lg rfl rfl (lop_len_own (W rfl id)) rfl ?_
  first | refine ln rfl rfl rfl rfl ?_ | refine lg rfl rfl (lop_neq (W rfl id) (E rfl)) rfl ?_
  first | refine lo (lop_pick_t (E rfl) (E rfl)) rfl ?_ | refine lo (lop_pick_f (E rfl) (W rfl (by simp))) rfl ?_ | refine lo (lop_pick (E rfl) (E rfl) (W rfl (by simp))) rfl ?_
  apply le; (repeat (first | (apply KeepIs.take; rfl) | (apply KeepIs.skip; rfl) | exact KeepIs.nil))
  (repeat (first | refine cs ?_ | refine cb ?_ | refine ck ?_ | refine cx ?_ | refine cr ?_ | refine an ?_ | refine ae ?_ | refine ar ?_ | refine bn ?_ | refine bh ?_ | refine be rfl ?_ | refine br ?_ | refine ct rfl ?_ | refine cf rfl ?_))
  refine sw_cond rfl (fun h2 => ?_) (fun h2 => ?_)
  · (repeat (first | refine cs ?_ | refine cb ?_ | refine ck ?_ | refine cx ?_ | refine cr ?_ | refine an ?_ | refine ae ?_ | refine ar ?_ | refine bn ?_ | refine bh ?_ | refine be rfl ?_ | refine br ?_ | refine ct rfl ?_ | refine cf rfl ?_))
    first | refine sw_seq_region ?_ | refine sw_region ?_
    refine lo (lop_assign (E rfl)) rfl ?_
    apply le; (repeat (first | (apply KeepIs.take; rfl) | (apply KeepIs.skip; rfl) | exact KeepIs.nil))
    (repeat (first | refine cs ?_ | refine cb ?_ | refine ck ?_ | refine cx ?_ | refine cr ?_ | refine an ?_ | refine ae ?_ | refine ar ?_ | refine bn ?_ | refine bh ?_ | refine be rfl ?_ | refine br ?_ | refine ct rfl ?_ | refine cf rfl ?_))
    (apply aend; (repeat (first | exact ResL.nil | (apply ResL.tmp; rfl) | (apply ResL.cell; rfl; infer_instance; rfl; (repeat (first | exact sget_here | (apply sget_next; (first | assumption | (apply Nq.en; assumption) | omega | (simp only [Nq] at *; omega))))); rfl) | (apply ResL.cells; rfl; infer_instance; infer_instance; rfl; (repeat (first | exact sget_here | (apply sget_next; (first | assumption | (apply Nq.en; assumption) | omega | (simp only [Nq] at *; omega))))); exact Nat.le_of_ble_eq_true rfl))))
    · exact ⟨rfl, rfl⟩
    · (first | exact no_mem | exact (fun _ h => h) | (apply StLe.mem; (repeat (first | exact StLe.nil | (apply StLe.cons; (repeat (first | exact List.mem_cons_self | apply List.mem_cons_of_mem)); first | rfl | focus (congr 1; done) | focus (simp; done) | (simp; rfl))))))
  · exfalso
    by_cases h3 : i < 0
    · simp [h3] at h2
    · by_cases h4 : ((b.length / 256 : Nat) : Int) ≤ i
      · rw [decide_eq_true h4] at h2
        simp at h2
      · have h5 : len ≠ 256 := by omega
        rw [decide_eq_false h3, decide_eq_false h4] at h2
        simp at h2
        omega
end
set_option maxRecDepth 100000 in
theorem nil_grow (n : Int) : SCall Try.prog 15 [.nilp, .int .i64 n] [] (fun y σ => y = .int .i64 (-1) ∧ σ = []) := by
  refine scall_of (n := 43) (ks := [0, 1, 4, 5, 22, 25, 26, 27]) Try.func15 rfl rfl (Nat.le_of_ble_eq_true rfl) ?_
  (repeat (first | refine cs ?_ | refine cb ?_ | refine ck ?_ | refine cx ?_ | refine cr ?_ | refine an ?_ | refine ae ?_ | refine ar ?_ | refine bn ?_ | refine bh ?_ | refine be rfl ?_ | refine br ?_ | refine ct rfl ?_ | refine cf rfl ?_))
  first | refine sw_seq_region ?_ | refine sw_region ?_
  refine lo (lop_assign (E rfl)) rfl ?_
  apply le; (repeat (first | (apply KeepIs.take; rfl) | (apply KeepIs.skip; rfl) | exact KeepIs.nil))
  (repeat (first | refine cs ?_ | refine cb ?_ | refine ck ?_ | refine cx ?_ | refine cr ?_ | refine an ?_ | refine ae ?_ | refine ar ?_ | refine bn ?_ | refine bh ?_ | refine be rfl ?_ | refine br ?_ | refine ct rfl ?_ | refine cf rfl ?_))
  first | refine sw_seq_drawn [(0, true), (1, true), (2, true), (3, true), (4, true), (5, true), (6, true), (7, true), (8, true), (9, true), (10, true), (11, true), (12, true), (13, false), (14, true), (15, true), (16, true)] mixed (by kernel_rfl) (by kernel_rfl) ?_ | refine sw_region_drawn [(0, true), (1, true), (2, true), (3, true), (4, true), (5, true), (6, true), (7, true), (8, true), (9, true), (10, true), (11, true), (12, true), (13, false), (14, true), (15, true), (16, true)] mixed (by kernel_rfl) (by kernel_rfl) ?_
  refine dlo rfl (lop_move (E rfl)) rfl ?_
  first | refine dlo rfl (lop_peql (E rfl) (E rfl) (.inl ⟨rfl, rfl⟩)) rfl ?_ | refine dlo rfl (lop_peql (E rfl) (E rfl) (.inr (.inl ⟨⟨_, _, rfl⟩, rfl⟩))) rfl ?_ | refine dlo rfl (lop_peql (E rfl) (E rfl) (.inr (.inr (.inl ⟨⟨_, _, _, rfl⟩, rfl⟩)))) rfl ?_ | refine dlo rfl (lop_peql (E rfl) (E rfl) (.inr (.inr (.inr ⟨⟨_, _, _, _, rfl⟩, rfl⟩)))) rfl ?_
  refine dlo rfl (lop_move (E rfl)) rfl ?_
  first | refine dln rfl rfl rfl rfl rfl ?_ | refine dlg rfl rfl rfl (lop_move (E rfl)) rfl ?_
  first | refine dln rfl rfl rfl rfl rfl ?_ | refine dlg rfl rfl rfl (lop_lss (W rfl id) (E rfl)) rfl ?_
  first | refine dlo rfl (lop_pick_t (E rfl) (E rfl)) rfl ?_ | refine dlo rfl (lop_pick_f (E rfl) (W rfl (by simp))) rfl ?_ | refine dlo rfl (lop_pick (E rfl) (E rfl) (W rfl (by simp))) rfl ?_
  refine dlo rfl (lop_move (E rfl)) rfl ?_
  first | refine dln rfl rfl rfl rfl rfl ?_ | refine dlg rfl rfl rfl (lop_move (E rfl)) rfl ?_
  first | refine dln rfl rfl rfl rfl rfl ?_ | refine dlg rfl rfl rfl (lop_move (E rfl)) rfl ?_
  first | refine dln rfl rfl rfl rfl rfl ?_ | refine dlg rfl rfl rfl (lop_nilCheck (W rfl id) (.inl ⟨_, _, rfl⟩)) rfl ?_ | refine dlg rfl rfl rfl (lop_nilCheck (W rfl id) (.inr (.inl ⟨_, _, _, rfl⟩))) rfl ?_ | refine dlg rfl rfl rfl (lop_nilCheck (W rfl id) (.inr (.inr ⟨_, _, _, _, rfl⟩))) rfl ?_
  first | refine dln rfl rfl rfl rfl rfl ?_ | refine dlg rfl rfl rfl (lop_field_ptr (W rfl id) rfl (by decide)) rfl ?_ | refine dlg rfl rfl rfl (lop_field_el (W rfl id) rfl (by decide)) rfl ?_
  first | refine dln rfl rfl rfl rfl rfl ?_ | refine dlg rfl rfl rfl (lop_load_ptr (W rfl id) rfl (by repeat (first | exact sget_here | refine sget_next (by (first | assumption | (apply Nq.en; assumption) | omega | (simp only [Nq] at *; omega))) ?_)) (fun _ => rfl)) rfl ?_ | refine dlg rfl rfl rfl (lop_load_el (W rfl id) rfl (fun hc => by first | rfl | exact get_map (by assumption) | assumption | exact get_map (at_bang (by (try simp at hc) <;> omega))) (fun _ => rfl)) rfl ?_
  first | refine dln rfl rfl rfl rfl rfl ?_ | refine dlg rfl rfl rfl (lop_move (E rfl)) rfl ?_
  refine rd_heavy_no rfl rfl rfl rfl rfl ?_
  first | refine dln rfl rfl rfl rfl rfl ?_ | refine dlg rfl rfl rfl (lop_sub64 (W rfl id) (by first | exact W rfl id | exact E rfl) (by omega) (by omega)) rfl ?_ | refine dlg rfl rfl rfl (lop_sub64c (W rfl id) (by first | exact W rfl id | exact E rfl) (fun hc => by simp at hc <;> first | omega | (have hov := hov hc; omega))) rfl ?_ | refine dlg rfl rfl rfl (lop_sub (W rfl id) (by first | exact W rfl id | exact E rfl)) rfl ?_
  first | refine dln rfl rfl rfl rfl rfl ?_ | refine dlg rfl rfl rfl (lop_gtr (W rfl id) (W rfl id)) rfl ?_
  first | refine dlo rfl (lop_pick_t (E rfl) (E rfl)) rfl ?_ | refine dlo rfl (lop_pick_f (E rfl) (W rfl (by simp))) rfl ?_ | refine dlo rfl (lop_pick (E rfl) (E rfl) (W rfl (by simp))) rfl ?_
  apply de; (repeat (first | (apply KeepIs.take; rfl) | (apply KeepIs.skip; rfl) | exact KeepIs.nil))
  (repeat (first | refine cs ?_ | refine cb ?_ | refine ck ?_ | refine cx ?_ | refine cr ?_ | refine an ?_ | refine ae ?_ | refine ar ?_ | refine bn ?_ | refine bh ?_ | refine be rfl ?_ | refine br ?_ | refine ct rfl ?_ | refine cf rfl ?_))
  first | refine sw_seq_region ?_ | refine sw_region ?_
  refine lo (lop_assign (E rfl)) rfl ?_
  apply le; (repeat (first | (apply KeepIs.take; rfl) | (apply KeepIs.skip; rfl) | exact KeepIs.nil))
  (repeat (first | refine cs ?_ | refine cb ?_ | refine ck ?_ | refine cx ?_ | refine cr ?_ | refine an ?_ | refine ae ?_ | refine ar ?_ | refine bn ?_ | refine bh ?_ | refine be rfl ?_ | refine br ?_ | refine ct rfl ?_ | refine cf rfl ?_))
  (apply aend; (repeat (first | exact ResL.nil | (apply ResL.tmp; rfl) | (apply ResL.cell; rfl; infer_instance; rfl; (repeat (first | exact sget_here | (apply sget_next; (first | assumption | (apply Nq.en; assumption) | omega | (simp only [Nq] at *; omega))))); rfl) | (apply ResL.cells; rfl; infer_instance; infer_instance; rfl; (repeat (first | exact sget_here | (apply sget_next; (first | assumption | (apply Nq.en; assumption) | omega | (simp only [Nq] at *; omega))))); exact Nat.le_of_ble_eq_true rfl))))
  · exact ⟨rfl, rfl⟩
  · (first | exact no_mem | exact (fun _ h => h) | (apply StLe.mem; (repeat (first | exact StLe.nil | (apply StLe.cons; (repeat (first | exact List.mem_cons_self | apply List.mem_cons_of_mem)); first | rfl | focus (congr 1; done) | focus (simp; done) | (simp; rfl))))))
set_option maxRecDepth 100000 in
theorem nil_page (i : Int) : SCall Try.prog 17 [.nilp, .int .i64 i] [] (fun y σ => y = .ro 0 [] .nil ∧ σ = []) := by
  refine scall_of (n := 24) (ks := [0, 1, 4, 12]) Try.func17 rfl rfl (Nat.le_of_ble_eq_true rfl) ?_
  (repeat (first | refine cs ?_ | refine cb ?_ | refine ck ?_ | refine cx ?_ | refine cr ?_ | refine an ?_ | refine ae ?_ | refine ar ?_ | refine bn ?_ | refine bh ?_ | refine be rfl ?_ | refine br ?_ | refine ct rfl ?_ | refine cf rfl ?_))
  first | refine sw_seq_region ?_ | refine sw_region ?_
  refine lo (lop_assign (E rfl)) rfl ?_
  apply le; (repeat (first | (apply KeepIs.take; rfl) | (apply KeepIs.skip; rfl) | exact KeepIs.nil))
  (repeat (first | refine cs ?_ | refine cb ?_ | refine ck ?_ | refine cx ?_ | refine cr ?_ | refine an ?_ | refine ae ?_ | refine ar ?_ | refine bn ?_ | refine bh ?_ | refine be rfl ?_ | refine br ?_ | refine ct rfl ?_ | refine cf rfl ?_))
  first | refine sw_seq_region ?_ | refine sw_region ?_
  refine lo (lop_move (E rfl)) rfl ?_
  refine lo (lop_lss (E rfl) (E rfl)) rfl ?_
  refine lo (lop_move (E rfl)) rfl ?_
  first | refine ln rfl rfl rfl rfl ?_ | refine lg rfl rfl (lop_move (E rfl)) rfl ?_
  first | refine ln rfl rfl rfl rfl ?_ | refine lg rfl rfl (lop_move (E rfl)) rfl ?_
  (first | refine pu [] Try.call16 nil_pages rfl (by repeat (first | exact ArgsIf.nil | refine ArgsIf.cons (by first | exact Ev.when rfl (by first | exact id | simp) | exact Ev.here rfl) (by first | exact Bor.refl _ | exact Bor.le VLe.any | exact Bor.le VLe.empty | exact Bor.own (by simp) (by repeat (first | exact sget_here | refine sget_next (by (first | assumption | (apply Nq.en; assumption) | omega | (simp only [Nq] at *; omega))) ?_)) (by simp) | exact Bor.le (VLe.of_eq (by simp))) ?_)) (by repeat (first | exact NoF.int | exact NoF.bool | exact NoF.nilp | exact NoF.nil | exact NoF.own | exact NoF.ptr | exact NoF.str | exact nofl_nil | apply NoF.tup | apply NoF.agg | apply nofl_cons)) ?_ | refine pug [] rfl rfl Try.call16 (fun _ => nil_pages) rfl (by repeat (first | exact ArgsIf.nil | refine ArgsIf.cons (by first | exact Ev.when rfl (by first | exact id | simp) | exact Ev.here rfl) (by first | exact Bor.refl _ | exact Bor.le VLe.any | exact Bor.le VLe.empty | exact Bor.own (by simp) (by repeat (first | exact sget_here | refine sget_next (by (first | assumption | (apply Nq.en; assumption) | omega | (simp only [Nq] at *; omega))) ?_)) (by simp) | exact Bor.le (VLe.of_eq (by simp))) ?_)) (by repeat (first | exact NoF.int | exact NoF.bool | exact NoF.nilp | exact NoF.nil | exact NoF.own | exact NoF.ptr | exact NoF.str | exact nofl_nil | apply NoF.tup | apply NoF.agg | apply nofl_cons)) ?_)
  first | refine ln rfl rfl rfl rfl ?_ | refine lg rfl rfl (lop_geq (W rfl id) (by first | exact W rfl id | exact E rfl)) rfl ?_
  first | refine lo (lop_pick_t (E rfl) (E rfl)) rfl ?_ | refine lo (lop_pick_f (E rfl) (W rfl (by simp))) rfl ?_ | refine lo (lop_pick (E rfl) (E rfl) (W rfl (by simp))) rfl ?_
  apply le; (repeat (first | (apply KeepIs.take; rfl) | (apply KeepIs.skip; rfl) | exact KeepIs.nil))
  (repeat (first | refine cs ?_ | refine cb ?_ | refine ck ?_ | refine cx ?_ | refine cr ?_ | refine an ?_ | refine ae ?_ | refine ar ?_ | refine bn ?_ | refine bh ?_ | refine be rfl ?_ | refine br ?_ | refine ct rfl ?_ | refine cf rfl ?_))
  rw [show (if decide (i < 0) = true then true else decide (0 ≤ i)) = true by by_cases h : i < 0 <;> simp [h] <;> omega]
  (repeat (first | refine cs ?_ | refine cb ?_ | refine ck ?_ | refine cx ?_ | refine cr ?_ | refine an ?_ | refine ae ?_ | refine ar ?_ | refine bn ?_ | refine bh ?_ | refine be rfl ?_ | refine br ?_ | refine ct rfl ?_ | refine cf rfl ?_))
  first | refine sw_seq_region ?_ | refine sw_region ?_
  refine lo (lop_assign (E rfl)) rfl ?_
  apply le; (repeat (first | (apply KeepIs.take; rfl) | (apply KeepIs.skip; rfl) | exact KeepIs.nil))
  (repeat (first | refine cs ?_ | refine cb ?_ | refine ck ?_ | refine cx ?_ | refine cr ?_ | refine an ?_ | refine ae ?_ | refine ar ?_ | refine bn ?_ | refine bh ?_ | refine be rfl ?_ | refine br ?_ | refine ct rfl ?_ | refine cf rfl ?_))
  (apply aend; (repeat (first | exact ResL.nil | (apply ResL.tmp; rfl) | (apply ResL.cell; rfl; infer_instance; rfl; (repeat (first | exact sget_here | (apply sget_next; (first | assumption | (apply Nq.en; assumption) | omega | (simp only [Nq] at *; omega))))); rfl) | (apply ResL.cells; rfl; infer_instance; infer_instance; rfl; (repeat (first | exact sget_here | (apply sget_next; (first | assumption | (apply Nq.en; assumption) | omega | (simp only [Nq] at *; omega))))); exact Nat.le_of_ble_eq_true rfl))))
  · exact ⟨rfl, rfl⟩
  · (first | exact no_mem | exact (fun _ h => h) | (apply StLe.mem; (repeat (first | exact StLe.nil | (apply StLe.cons; (repeat (first | exact List.mem_cons_self | apply List.mem_cons_of_mem)); first | rfl | focus (congr 1; done) | focus (simp; done) | (simp; rfl))))))
set_option maxRecDepth 100000 in
theorem nil_setpage {p : Nat} (i : Int) (len : Nat) (pl : List Nat) (hpl : len ≤ pl.length) : SCall Try.prog 19 [.nilp, .int .i64 i, .own p 0 len] [(p, .arr 5 1 (pl.map encU))] (fun y σ => y = .bool false ∧ σ = [(p, .arr 5 1 (pl.map encU))]) := by
  refine scall_of (n := 32) (ks := [0, 1, 2, 6, 19]) Try.func19 rfl rfl (Nat.le_of_ble_eq_true rfl) ?_
  (repeat (first | refine cs ?_ | refine cb ?_ | refine ck ?_ | refine cx ?_ | refine cr ?_ | refine an ?_ | refine ae ?_ | refine ar ?_ | refine bn ?_ | refine bh ?_ | refine be rfl ?_ | refine br ?_ | refine ct rfl ?_ | refine cf rfl ?_))
  first | refine sw_seq_region ?_ | refine sw_region ?_
  refine lo (lop_assign (E rfl)) rfl ?_
  apply le; (repeat (first | (apply KeepIs.take; rfl) | (apply KeepIs.skip; rfl) | exact KeepIs.nil))
  (repeat (first | refine cs ?_ | refine cb ?_ | refine ck ?_ | refine cx ?_ | refine cr ?_ | refine an ?_ | refine ae ?_ | refine ar ?_ | refine bn ?_ | refine bh ?_ | refine be rfl ?_ | refine br ?_ | refine ct rfl ?_ | refine cf rfl ?_))
  first | refine sw_seq_region ?_ | refine sw_region ?_
  refine lo (lop_move (E rfl)) rfl ?_
  refine lo (lop_lss (E rfl) (E rfl)) rfl ?_
  refine lo (lop_move (E rfl)) rfl ?_
  first | refine ln rfl rfl rfl rfl ?_ | refine lg rfl rfl (lop_move (E rfl)) rfl ?_
  first | refine ln rfl rfl rfl rfl ?_ | refine lg rfl rfl (lop_move (E rfl)) rfl ?_
  (first | refine pu [] Try.call16 nil_pages rfl (by repeat (first | exact ArgsIf.nil | refine ArgsIf.cons (by first | exact Ev.when rfl (by first | exact id | simp) | exact Ev.here rfl) (by first | exact Bor.refl _ | exact Bor.le VLe.any | exact Bor.le VLe.empty | exact Bor.own (by simp) (by repeat (first | exact sget_here | refine sget_next (by (first | assumption | (apply Nq.en; assumption) | omega | (simp only [Nq] at *; omega))) ?_)) (by simp) | exact Bor.le (VLe.of_eq (by simp))) ?_)) (by repeat (first | exact NoF.int | exact NoF.bool | exact NoF.nilp | exact NoF.nil | exact NoF.own | exact NoF.ptr | exact NoF.str | exact nofl_nil | apply NoF.tup | apply NoF.agg | apply nofl_cons)) ?_ | refine pug [] rfl rfl Try.call16 (fun _ => nil_pages) rfl (by repeat (first | exact ArgsIf.nil | refine ArgsIf.cons (by first | exact Ev.when rfl (by first | exact id | simp) | exact Ev.here rfl) (by first | exact Bor.refl _ | exact Bor.le VLe.any | exact Bor.le VLe.empty | exact Bor.own (by simp) (by repeat (first | exact sget_here | refine sget_next (by (first | assumption | (apply Nq.en; assumption) | omega | (simp only [Nq] at *; omega))) ?_)) (by simp) | exact Bor.le (VLe.of_eq (by simp))) ?_)) (by repeat (first | exact NoF.int | exact NoF.bool | exact NoF.nilp | exact NoF.nil | exact NoF.own | exact NoF.ptr | exact NoF.str | exact nofl_nil | apply NoF.tup | apply NoF.agg | apply nofl_cons)) ?_)
  first | refine ln rfl rfl rfl rfl ?_ | refine lg rfl rfl (lop_geq (W rfl id) (by first | exact W rfl id | exact E rfl)) rfl ?_
  first | refine lo (lop_pick_t (E rfl) (E rfl)) rfl ?_ | refine lo (lop_pick_f (E rfl) (W rfl (by simp))) rfl ?_ | refine lo (lop_pick (E rfl) (E rfl) (W rfl (by simp))) rfl ?_
  refine lo (lop_move (E rfl)) rfl ?_
  first | refine ln rfl rfl rfl rfl ?_ | refine lg rfl rfl (lop_move (E rfl)) rfl ?_
  first | refine ln rfl rfl rfl rfl ?_ | refine lg rfl rfl (lop_len_map (W rfl id)) rfl ?_ | refine lg rfl rfl (lop_len_ro (W rfl id)) rfl ?_ | refine lg rfl rfl (lop_len_own (W rfl id)) rfl ?_
  first | refine ln rfl rfl rfl rfl ?_ | refine lg rfl rfl (lop_neq (W rfl id) (E rfl)) rfl ?_
  first | refine lo (lop_pick_t (E rfl) (E rfl)) rfl ?_ | refine lo (lop_pick_f (E rfl) (W rfl (by simp))) rfl ?_ | refine lo (lop_pick (E rfl) (E rfl) (W rfl (by simp))) rfl ?_
  apply le; (repeat (first | (apply KeepIs.take; rfl) | (apply KeepIs.skip; rfl) | exact KeepIs.nil))
  (repeat (first | refine cs ?_ | refine cb ?_ | refine ck ?_ | refine cx ?_ | refine cr ?_ | refine an ?_ | refine ae ?_ | refine ar ?_ | refine bn ?_ | refine bh ?_ | refine be rfl ?_ | refine br ?_ | refine ct rfl ?_ | refine cf rfl ?_))
  refine sw_cond rfl (fun h2 => ?_) (fun h2 => ?_)
  · (repeat (first | refine cs ?_ | refine cb ?_ | refine ck ?_ | refine cx ?_ | refine cr ?_ | refine an ?_ | refine ae ?_ | refine ar ?_ | refine bn ?_ | refine bh ?_ | refine be rfl ?_ | refine br ?_ | refine ct rfl ?_ | refine cf rfl ?_))
    first | refine sw_seq_region ?_ | refine sw_region ?_
    refine lo (lop_assign (E rfl)) rfl ?_
    apply le; (repeat (first | (apply KeepIs.take; rfl) | (apply KeepIs.skip; rfl) | exact KeepIs.nil))
    (repeat (first | refine cs ?_ | refine cb ?_ | refine ck ?_ | refine cx ?_ | refine cr ?_ | refine an ?_ | refine ae ?_ | refine ar ?_ | refine bn ?_ | refine bh ?_ | refine be rfl ?_ | refine br ?_ | refine ct rfl ?_ | refine cf rfl ?_))
    (apply aend; (repeat (first | exact ResL.nil | (apply ResL.tmp; rfl) | (apply ResL.cell; rfl; infer_instance; rfl; (repeat (first | exact sget_here | (apply sget_next; (first | assumption | (apply Nq.en; assumption) | omega | (simp only [Nq] at *; omega))))); rfl) | (apply ResL.cells; rfl; infer_instance; infer_instance; rfl; (repeat (first | exact sget_here | (apply sget_next; (first | assumption | (apply Nq.en; assumption) | omega | (simp only [Nq] at *; omega))))); exact Nat.le_of_ble_eq_true rfl))))
    · exact ⟨rfl, rfl⟩
    · (first | exact no_mem | exact (fun _ h => h) | (apply StLe.mem; (repeat (first | exact StLe.nil | (apply StLe.cons; (repeat (first | exact List.mem_cons_self | apply List.mem_cons_of_mem)); first | rfl | focus (congr 1; done) | focus (simp; done) | (simp; rfl))))))
  · exfalso
    by_cases h3 : i < 0
    · simp [h3] at h2
    · rw [decide_eq_false h3, decide_eq_true (show 0 ≤ i by omega)] at h2
      simp at h2
set_option maxRecDepth 100000 in
theorem nil_dirty : SCall Try.prog 18 [.nilp] [] (fun y σ => y = .ro 0 [] .nil ∧ σ = []) := by
  refine scall_of (n := 10) (ks := [0, 2, 4]) Try.func18 rfl rfl (Nat.le_of_ble_eq_true rfl) ?_
  (repeat (first | refine cs ?_ | refine cb ?_ | refine ck ?_ | refine cx ?_ | refine cr ?_ | refine an ?_ | refine ae ?_ | refine ar ?_ | refine bn ?_ | refine bh ?_ | refine be rfl ?_ | refine br ?_ | refine ct rfl ?_ | refine cf rfl ?_))
  first | refine sw_seq_region ?_ | refine sw_region ?_
  refine lo (lop_assign (E rfl)) rfl ?_
  apply le; (repeat (first | (apply KeepIs.take; rfl) | (apply KeepIs.skip; rfl) | exact KeepIs.nil))
  (repeat (first | refine cs ?_ | refine cb ?_ | refine ck ?_ | refine cx ?_ | refine cr ?_ | refine an ?_ | refine ae ?_ | refine ar ?_ | refine bn ?_ | refine bh ?_ | refine be rfl ?_ | refine br ?_ | refine ct rfl ?_ | refine cf rfl ?_))
  first | refine sw_seq_region ?_ | refine sw_region ?_
  refine lo (lop_move (E rfl)) rfl ?_
  first | refine lo (lop_peql (E rfl) (E rfl) (.inl ⟨rfl, rfl⟩)) rfl ?_ | refine lo (lop_peql (E rfl) (E rfl) (.inr (.inl ⟨⟨_, _, rfl⟩, rfl⟩))) rfl ?_ | refine lo (lop_peql (E rfl) (E rfl) (.inr (.inr (.inl ⟨⟨_, _, _, rfl⟩, rfl⟩)))) rfl ?_ | refine lo (lop_peql (E rfl) (E rfl) (.inr (.inr (.inr ⟨⟨_, _, _, _, rfl⟩, rfl⟩)))) rfl ?_
  apply le; (repeat (first | (apply KeepIs.take; rfl) | (apply KeepIs.skip; rfl) | exact KeepIs.nil))
  (repeat (first | refine cs ?_ | refine cb ?_ | refine ck ?_ | refine cx ?_ | refine cr ?_ | refine an ?_ | refine ae ?_ | refine ar ?_ | refine bn ?_ | refine bh ?_ | refine be rfl ?_ | refine br ?_ | refine ct rfl ?_ | refine cf rfl ?_))
  first | refine sw_seq_region ?_ | refine sw_region ?_
  refine lo (lop_assign (E rfl)) rfl ?_
  apply le; (repeat (first | (apply KeepIs.take; rfl) | (apply KeepIs.skip; rfl) | exact KeepIs.nil))
  (repeat (first | refine cs ?_ | refine cb ?_ | refine ck ?_ | refine cx ?_ | refine cr ?_ | refine an ?_ | refine ae ?_ | refine ar ?_ | refine bn ?_ | refine bh ?_ | refine be rfl ?_ | refine br ?_ | refine ct rfl ?_ | refine cf rfl ?_))
  (apply aend; (repeat (first | exact ResL.nil | (apply ResL.tmp; rfl) | (apply ResL.cell; rfl; infer_instance; rfl; (repeat (first | exact sget_here | (apply sget_next; (first | assumption | (apply Nq.en; assumption) | omega | (simp only [Nq] at *; omega))))); rfl) | (apply ResL.cells; rfl; infer_instance; infer_instance; rfl; (repeat (first | exact sget_here | (apply sget_next; (first | assumption | (apply Nq.en; assumption) | omega | (simp only [Nq] at *; omega))))); exact Nat.le_of_ble_eq_true rfl))))
  · exact ⟨rfl, rfl⟩
  · (first | exact no_mem | exact (fun _ h => h) | (apply StLe.mem; (repeat (first | exact StLe.nil | (apply StLe.cons; (repeat (first | exact List.mem_cons_self | apply List.mem_cons_of_mem)); first | rfl | focus (congr 1; done) | focus (simp; done) | (simp; rfl))))))
end Go.Proofs.Ytemehfolglcleaa
