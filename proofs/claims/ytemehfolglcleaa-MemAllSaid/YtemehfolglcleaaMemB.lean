/-
  Package mem: touch, Store, Clean.
-/
import Derived.Test.YtemehfolglcleaaMem
namespace Go.Proofs.Ytemehfolglcleaa
open Go.RowKit Go.ChangeShapes Go.WideShapes Go.ChangeAt Go.Deep
set_option linter.unusedSimpArgs false
set_option linter.unusedVariables false
attribute [local irreducible] SW RS RD AThen ABlock

def touchL (l : List Int) (i : Int) : List Int := if l.contains i then l else insL l (rankL l i) i
theorem rank_le (l : List Int) (x : Int) : rankL l x ≤ l.length := by unfold rankL; exact (List.takeWhile_sublist _).length_le
theorem touchL_len (l : List Int) (i : Int) : (touchL l i).length ≤ l.length + 1 := by
  unfold touchL
  split
  · omega
  · rw [insL_len (rank_le l i)]; omega
theorem takeWhile_lt (l : List Int) (x : Int) : ∀ y ∈ l.take (rankL l x), y < x := by
  intro y hy
  unfold rankL at hy
  rw [show l.take (l.takeWhile fun y => decide (y < x)).length = l.takeWhile fun y => decide (y < x) from (List.prefix_iff_eq_take.1 (List.takeWhile_prefix _)).symm] at hy
  simpa using List.all_eq_true.1 (List.all_takeWhile (p := fun y => decide (y < x)) (l := l)) y hy
theorem rank_ge {l : List Int} (hs : l.Pairwise (· < ·)) (x : Int) : ∀ y ∈ l.drop (rankL l x), x ≤ y := by
  induction l with
  | nil => intro y hy; simp at hy
  | cons a t ih =>
    rw [List.pairwise_cons] at hs
    intro y hy
    unfold rankL at hy ih
    by_cases h : a < x
    · simp [List.takeWhile_cons, h] at hy
      exact ih hs.2 y hy
    · simp [List.takeWhile_cons, h] at hy
      rcases hy with rfl | hy
      · omega
      · have := hs.1 y hy; omega
theorem touchL_sorted {l : List Int} (hs : l.Pairwise (· < ·)) (i : Int) : (touchL l i).Pairwise (· < ·) := by
  unfold touchL
  split
  · exact hs
  · next h =>
    unfold insL
    have h1 := takeWhile_lt l i
    have h2 := rank_ge hs i
    have hni : ∀ y ∈ l.drop (rankL l i), y ≠ i := fun y hy e => by subst e; exact h (List.contains_iff_mem.2 (List.mem_of_mem_drop hy))
    rw [List.pairwise_append, List.pairwise_cons]
    refine ⟨hs.sublist (List.take_sublist _ _), ⟨fun y hy => ?_, hs.sublist (List.drop_sublist _ _)⟩, fun y hy z hz => ?_⟩
    · have := h2 y hy; have := hni y hy; omega
    · have := h1 y hy
      rcases List.mem_cons.1 hz with rfl | hz
      · exact this
      · have := h2 z hz; omega
theorem touchL_mem (l : List Int) (i y : Int) : y ∈ touchL l i ↔ y = i ∨ y ∈ l := by
  unfold touchL
  split
  · next h => rw [List.contains_iff_mem] at h; constructor <;> intro hy <;> first | exact .inr hy | (rcases hy with rfl | hy <;> assumption)
  · unfold insL
    rw [List.mem_append, List.mem_cons]
    have h3 : y ∈ l ↔ y ∈ l.take (rankL l i) ∨ y ∈ l.drop (rankL l i) := by rw [← List.mem_append, List.take_append_drop]
    rw [h3]
    constructor
    · rintro (h | h | h) <;> simp [h]
    · rintro (h | h | h) <;> simp [h]
section
variable {m q d : Nat}
set_option maxRecDepth 100000 in
theorem mem_touch (hN : Nq q m ∧ Nq d m ∧ Nq d q) (b : List Nat) (mo : Int) (dl : List Int) (hdl : dl.length ≤ 100000) (hs : dl.Pairwise (· < ·)) (i : Int) : SCall Try.prog 23 [.ptr m 0, .int .i64 i] [(m, .box 54 [.own q 0 (b).length, .int .i64 (mo), .own d 0 (dl).length]), (q, .arr 5 1 ((b).map encU)), (d, .arr 3 1 ((dl).map encI))]
    (fun x σ => ∃ e, (Nq e m ∧ Nq e q) ∧ σ = [(m, .box 54 [.own q 0 (b).length, .int .i64 (mo), .own e 0 (touchL dl i).length]), (q, .arr 5 1 ((b).map encU)), (e, .arr 3 1 ((touchL dl i).map encI))]) := by
  obtain ⟨hN1, hN2, hN3⟩ := hN
  refine scall_of (n := 28) (ks := [0, 1, 4, 5, 16]) Try.func23 rfl rfl (Nat.le_of_ble_eq_true rfl) ?_
  (repeat (first | refine cs ?_ | refine cb ?_ | refine ck ?_ | refine cx ?_ | refine cr ?_ | refine an ?_ | refine ae ?_ | refine ar ?_ | refine bn ?_ | refine bh ?_ | refine be rfl ?_ | refine br ?_ | refine ct rfl ?_ | refine cf rfl ?_))
  first | refine sw_seq_region ?_ | refine sw_region ?_
  refine lo (lop_move (E rfl)) rfl ?_
  first | refine lo (lop_nilCheck (E rfl) (.inl ⟨_, _, rfl⟩)) rfl ?_ | refine lo (lop_nilCheck (E rfl) (.inr (.inl ⟨_, _, _, rfl⟩))) rfl ?_ | refine lo (lop_nilCheck (E rfl) (.inr (.inr ⟨_, _, _, _, rfl⟩))) rfl ?_
  first | refine lo (lop_field_ptr (E rfl) rfl (by decide)) rfl ?_ | refine lo (lop_field_el (E rfl) rfl (by decide)) rfl ?_
  first | refine lo (lop_load_ptr (E rfl) rfl (by repeat (first | exact sget_here | refine sget_next (by (first | assumption | (apply Nq.en; assumption) | omega | (simp only [Nq] at *; omega))) ?_)) (fun _ => rfl)) rfl ?_ | refine lo (lop_load_el (E rfl) rfl (fun hc => by first | rfl | exact get_map (by assumption) | assumption | exact get_map (at_bang (by omega))) (fun _ => rfl)) rfl ?_
  refine lo (lop_move (E rfl)) rfl ?_
  refine pu [d] Try.call26 (lib_search_int dl i (by omega) hs) rfl ?_ (by repeat (first | exact NoF.int | exact NoF.bool | exact NoF.nilp | exact NoF.nil | exact NoF.own | exact NoF.ptr | exact NoF.str | exact nofl_nil | apply NoF.tup | apply NoF.agg | apply nofl_cons)) ?_
  · (repeat (
       first
        | exact ArgsIf.nil
        | (apply ArgsIf.cons; (
         first
          | exact W rfl id
          | exact W rfl (fun _ => rfl)
          | exact E rfl); (
         first
          | exact Bor.refl _
          | exact Bor.le VLe.any
          | exact Bor.le VLe.empty
          | (apply bown; (repeat (
            first
             | exact List.mem_cons_self
             | apply List.mem_cons_of_mem)); (repeat (
            first
             | exact sget_here
             | (apply sget_next; (
              first
               | assumption
               | (apply Nq.en; assumption)
               | omega
               | (simp only [Nq] at *; omega))))); (
           first
            | focus (simp; done)
            | omega
            | focus (simp; omega)); (
           first
            | rfl
            | focus (simp; done)
            | focus (exact List.take_of_length_le (by
             first
              | (simp; done)
              | (simp; omega)))))
          | focus (apply bbox; (repeat (
            first
             | exact List.mem_cons_self
             | apply List.mem_cons_of_mem)); (repeat (
            first
             | exact sget_here
             | (apply sget_next; (
              first
               | assumption
               | (apply Nq.en; assumption)
               | omega
               | (simp only [Nq] at *; omega))))); rfl; rfl; (repeat (
            first
             | exact BorL.nil
             | (apply BorL.cons; (
              first
               | exact Bor.refl _
               | exact Bor.le VLe.any
               | exact Bor.le VLe.empty
               | (apply bown; (repeat (
                 first
                  | exact List.mem_cons_self
                  | apply List.mem_cons_of_mem)); (repeat (
                 first
                  | exact sget_here
                  | (apply sget_next; (
                   first
                    | assumption
                    | (apply Nq.en; assumption)
                    | omega
                    | (simp only [Nq] at *; omega))))); (
                first
                 | focus (simp; done)
                 | omega); (
                first
                 | rfl
                 | focus (simp; done)
                 | focus (exact List.take_of_length_le (by
                  first
                   | (simp; done)
                   | (simp; omega)))))
               | focus (apply Bor.le; apply VLe.of_eq; simp; done))))); done)
          | focus (apply bagg; (repeat (
            first
             | exact BorL.nil
             | (apply BorL.cons; (
              first
               | exact Bor.refl _
               | exact Bor.le VLe.any
               | exact Bor.le VLe.empty
               | (apply bown; (repeat (
                 first
                  | exact List.mem_cons_self
                  | apply List.mem_cons_of_mem)); (repeat (
                 first
                  | exact sget_here
                  | (apply sget_next; (
                   first
                    | assumption
                    | (apply Nq.en; assumption)
                    | omega
                    | (simp only [Nq] at *; omega))))); (
                first
                 | focus (simp; done)
                 | omega); (
                first
                 | rfl
                 | focus (simp; done)
                 | focus (exact List.take_of_length_le (by
                  first
                   | (simp; done)
                   | (simp; omega)))))
               | focus (apply Bor.le; apply VLe.of_eq; simp; done))))); done)
          | focus (apply Bor.le; apply VLe.of_eq; simp; done)))))
  refine lo (lop_move (E rfl)) rfl ?_
  refine lo (lop_extract (E rfl) rfl) rfl ?_
  refine lo (lop_extract (E rfl) rfl) rfl ?_
  refine lo (lop_assign (E rfl)) rfl ?_
  refine lo (lop_assign (E rfl)) rfl ?_
  apply le; (repeat (first | (apply KeepIs.take; rfl) | (apply KeepIs.skip; rfl) | exact KeepIs.nil))
  (repeat (first | refine cs ?_ | refine cb ?_ | refine ck ?_ | refine cx ?_ | refine cr ?_ | refine an ?_ | refine ae ?_ | refine ar ?_ | refine bn ?_ | refine bh ?_ | refine be rfl ?_ | refine br ?_ | refine ct rfl ?_ | refine cf rfl ?_))
  first | refine sw_seq_region ?_ | refine sw_region ?_
  refine lo (lop_move (E rfl)) rfl ?_
  refine lo (lop_not (E rfl)) rfl ?_
  apply le; (repeat (first | (apply KeepIs.take; rfl) | (apply KeepIs.skip; rfl) | exact KeepIs.nil))
  (repeat (first | refine cs ?_ | refine cb ?_ | refine ck ?_ | refine cx ?_ | refine cr ?_ | refine an ?_ | refine ae ?_ | refine ar ?_ | refine bn ?_ | refine bh ?_ | refine be rfl ?_ | refine br ?_ | refine ct rfl ?_ | refine cf rfl ?_))
  refine sw_cond rfl (fun h => ?_) (fun h => ?_)
  · have h' : dl.contains i = false := by simpa using h
    have ht : touchL dl i = insL dl (rankL dl i) i := by simp only [touchL, h', Bool.false_eq_true, if_false]
    (repeat (first | refine cs ?_ | refine cb ?_ | refine ck ?_ | refine cx ?_ | refine cr ?_ | refine an ?_ | refine ae ?_ | refine ar ?_ | refine bn ?_ | refine bh ?_ | refine be rfl ?_ | refine br ?_ | refine ct rfl ?_ | refine cf rfl ?_))
    first | refine sw_seq_region ?_ | refine sw_region ?_
    refine lo (lop_move (E rfl)) rfl ?_
    refine lo (lop_move (E rfl)) rfl ?_
    first | refine lo (lop_nilCheck (E rfl) (.inl ⟨_, _, rfl⟩)) rfl ?_ | refine lo (lop_nilCheck (E rfl) (.inr (.inl ⟨_, _, _, rfl⟩))) rfl ?_ | refine lo (lop_nilCheck (E rfl) (.inr (.inr ⟨_, _, _, _, rfl⟩))) rfl ?_
    first | refine lo (lop_field_ptr (E rfl) rfl (by decide)) rfl ?_ | refine lo (lop_field_el (E rfl) rfl (by decide)) rfl ?_
    first | refine lo (lop_load_ptr (E rfl) rfl (by repeat (first | exact sget_here | refine sget_next (by (first | assumption | (apply Nq.en; assumption) | omega | (simp only [Nq] at *; omega))) ?_)) (fun _ => rfl)) rfl ?_ | refine lo (lop_load_el (E rfl) rfl (fun hc => by first | rfl | exact get_map (by assumption) | assumption | exact get_map (at_bang (by omega))) (fun _ => rfl)) rfl ?_
    refine lo (lop_move (E rfl)) rfl ?_
    refine lo (lop_move (E rfl)) rfl ?_
    apply bs; (repeat (first | exact AEvs.nil | (apply AEvs.cons; rfl))); rfl; rfl; rfl; rfl; (first | (simp only [Value.cells, AV.cells, List.map_cons, List.map_nil, ofConst, ofCell]; rfl) | rfl); rfl; intro r24 h24; simp only [fresh_cons, fresh_nil, and_true] at h24; (repeat (rcases h24 with ⟨_, h24⟩))
    refine cw [(r24, .arr 3 1 [encI i]), (d, .arr 3 1 (dl.map encI))] Try.call27 (lib_insert_int dl (rankL dl i) (rank_le dl i) i (by omega) (by (first | assumption | (apply Nq.en; assumption) | omega | (simp only [Nq] at *; omega)))) rfl ?_ ?_ ?_
    · (repeat (first | exact ArgsLe.nil | (apply ArgsLe.cons; rfl; first | exact VLe.refl _ | exact VLe.when rfl | exact VLe.any | exact VLe.empty | exact VLe.of_eq (by simp))))
    · (first | exact no_mem | exact (fun _ h => h) | (apply StLe.mem; (repeat (first | exact StLe.nil | (apply StLe.cons; (repeat (first | exact List.mem_cons_self | apply List.mem_cons_of_mem)); first | rfl | focus (congr 1; done) | focus (simp; done) | (simp; rfl))))))
    rintro x σ' ⟨e, ⟨he1, he2⟩, rfl, rfl⟩ hq
    replace hq := (hq _ List.mem_cons_self).resolve_left (by simp only [List.mem_cons, List.not_mem_nil, or_false, exists_eq_or_imp, exists_eq_left, not_or, false_and, exists_false, not_false_eq_true]; (repeat' (first | apply And.intro | (first | assumption | (apply Nq.en; assumption) | omega | (simp only [Nq] at *; omega)))); done); simp only [fresh_cons, fresh_nil, and_true] at hq; (repeat (rcases hq with ⟨_, hq⟩))
    (apply rs_sto; (first | (simp (disch := (first | (simp only [List.mem_cons, List.not_mem_nil, true_or, or_true, or_false]; done) | (focus (simp only [List.mem_cons, List.not_mem_nil, or_false, not_or]; (repeat' (first | apply And.intro | (first | assumption | (apply Nq.en; assumption) | omega | (simp only [Nq] at *; omega)))); done)) | omega)) only [↓put_σ, ↓mk_σ, AV.cells, sset, sdrop_none, sdrop_nil, sdrop_in, sdrop_out, List.nil_append, List.cons_append, List.append_nil, List.map_nil, List.map_cons, List.take_succ_cons, List.take_zero, List.drop_succ_cons, List.drop_zero, take_len', take_map_len, Nat.zero_add, Nat.add_zero, ofCell, ofConst]; rfl) | rfl))
    first | refine lo (lop_nilCheck (E rfl) (.inl ⟨_, _, rfl⟩)) rfl ?_ | refine lo (lop_nilCheck (E rfl) (.inr (.inl ⟨_, _, _, rfl⟩))) rfl ?_ | refine lo (lop_nilCheck (E rfl) (.inr (.inr ⟨_, _, _, _, rfl⟩))) rfl ?_
    first | refine lo (lop_field_ptr (E rfl) rfl (by decide)) rfl ?_ | refine lo (lop_field_el (E rfl) rfl (by decide)) rfl ?_
    apply stp; rfl; rfl; rfl; rfl; (repeat (first | (apply SPut.here; (repeat (first | exact Put.done | apply Put.put | apply Put.skip)); (repeat (first | exact Fresh.nil | (apply Fresh.cons; (first | assumption | (apply Nq.en; assumption) | omega | (simp only [Nq] at *; omega)))))) | (apply SPut.next; (first | assumption | (apply Nq.en; assumption) | omega | (simp only [Nq] at *; omega)))))
    apply le; (repeat (first | (apply KeepIs.take; rfl) | (apply KeepIs.skip; rfl) | exact KeepIs.nil))
    (repeat (first | refine cs ?_ | refine cb ?_ | refine ck ?_ | refine cx ?_ | refine cr ?_ | refine an ?_ | refine ae ?_ | refine ar ?_ | refine bn ?_ | refine bh ?_ | refine be rfl ?_ | refine br ?_ | refine ct rfl ?_ | refine cf rfl ?_))
    (apply aend; (repeat (first | exact ResL.nil | (apply ResL.tmp; rfl) | (apply ResL.cell; rfl; infer_instance; rfl; (repeat (first | exact sget_here | (apply sget_next; (first | assumption | (apply Nq.en; assumption) | omega | (simp only [Nq] at *; omega))))); rfl) | (apply ResL.cells; rfl; infer_instance; infer_instance; rfl; (repeat (first | exact sget_here | (apply sget_next; (first | assumption | (apply Nq.en; assumption) | omega | (simp only [Nq] at *; omega))))); exact Nat.le_of_ble_eq_true rfl))))
    · exact ⟨e, ⟨by (first | assumption | (apply Nq.en; assumption) | omega | (simp only [Nq] at *; omega)), by (first | assumption | (apply Nq.en; assumption) | omega | (simp only [Nq] at *; omega))⟩, rfl⟩
    · rw [ht, insL_len (rank_le dl i)]
      (first | exact no_mem | exact (fun _ h => h) | (apply StLe.mem; (repeat (first | exact StLe.nil | (apply StLe.cons; (repeat (first | exact List.mem_cons_self | apply List.mem_cons_of_mem)); first | rfl | focus (congr 1; done) | focus (simp; done) | (simp; rfl))))))
  · have h' : dl.contains i = true := by simpa using h
    have ht : touchL dl i = dl := by simp only [touchL, h', if_true]
    refine sw_ren (ks := [0, 1, 4, 5, 16]) m 2 d (by repeat (first | exact sget_here | refine sget_next (by (first | assumption | (apply Nq.en; assumption) | omega | (simp only [Nq] at *; omega))) ?_)) rfl (by repeat (first | exact sget_here | refine sget_next (by (first | assumption | (apply Nq.en; assumption) | omega | (simp only [Nq] at *; omega))) ?_)) fun e he => ?_
    simp only [fresh_cons, fresh_nil, and_true] at he; (repeat (rcases he with ⟨_, he⟩))
    apply Exists.intro; apply And.intro; (repeat (first | (apply SSet.here; (repeat (first | exact Fresh.nil | (apply Fresh.cons; (first | assumption | (apply Nq.en; assumption) | omega | (simp only [Nq] at *; omega)))))) | (apply SSet.next; (first | assumption | (apply Nq.en; assumption) | omega | (simp only [Nq] at *; omega)))))
    apply Exists.intro; apply And.intro; (repeat (first | (apply SSet.here; (repeat (first | exact Fresh.nil | (apply Fresh.cons; (first | assumption | (apply Nq.en; assumption) | omega | (simp only [Nq] at *; omega)))))) | (apply SSet.next; (first | assumption | (apply Nq.en; assumption) | omega | (simp only [Nq] at *; omega)))))
    (repeat (first | refine cs ?_ | refine cb ?_ | refine ck ?_ | refine cx ?_ | refine cr ?_ | refine an ?_ | refine ae ?_ | refine ar ?_ | refine bn ?_ | refine bh ?_ | refine be rfl ?_ | refine br ?_ | refine ct rfl ?_ | refine cf rfl ?_))
    (apply aend; (repeat (first | exact ResL.nil | (apply ResL.tmp; rfl) | (apply ResL.cell; rfl; infer_instance; rfl; (repeat (first | exact sget_here | (apply sget_next; (first | assumption | (apply Nq.en; assumption) | omega | (simp only [Nq] at *; omega))))); rfl) | (apply ResL.cells; rfl; infer_instance; infer_instance; rfl; (repeat (first | exact sget_here | (apply sget_next; (first | assumption | (apply Nq.en; assumption) | omega | (simp only [Nq] at *; omega))))); exact Nat.le_of_ble_eq_true rfl))))
    · exact ⟨e, ⟨by (first | assumption | (apply Nq.en; assumption) | omega | (simp only [Nq] at *; omega)), by (first | assumption | (apply Nq.en; assumption) | omega | (simp only [Nq] at *; omega))⟩, rfl⟩
    · rw [ht]
      (first | exact no_mem | exact (fun _ h => h) | (apply StLe.mem; (repeat (first | exact StLe.nil | (apply StLe.cons; (repeat (first | exact List.mem_cons_self | apply List.mem_cons_of_mem)); first | rfl | focus (congr 1; done) | focus (simp; done) | (simp; rfl))))))
def stN (b : List Nat) (a x : Nat) : Nat → List Nat
  | 0 => b
  | k + 1 => (stN b a x k).set (a + k) (x / 256 ^ k % 256)
theorem stN_len (b : List Nat) (a x : Nat) : ∀ k, (stN b a x k).length = b.length
  | 0 => rfl
  | k + 1 => by rw [stN, List.length_set, stN_len]
theorem stN_lt {b : List Nat} (h : ∀ y ∈ b, y < 256) (a x : Nat) : ∀ k, ∀ y ∈ stN b a x k, y < 256
  | 0 => h
  | k + 1 => fun y hy => by
    rw [stN] at hy
    rcases List.mem_or_eq_of_mem_set hy with hy | rfl
    · exact stN_lt h a x k y hy
    · exact Nat.mod_lt _ (by decide)
theorem set_encU {l : List Nat} {i n : Nat} : (l.map encU).set i [.int .u8 n] = (l.set i n).map encU := by rw [List.map_set]; rfl
theorem shr_u8 {x k : Nat} (hk : k < 8) (hx : x < 18446744073709551616) : IntKind.u8.wrap (Int.fdiv (x : Int) (2 ^ min (Int.toNat (8 * (k : Int))) IntKind.u64.bits)) = ((x / 256 ^ k % 256 : Nat) : Int) := by
  have e1 : min (Int.toNat (8 * (k : Int))) IntKind.u64.bits = 8 * k := by simp [IntKind.bits]; omega
  have e2 : (2 : Int) ^ (8 * k) = ((256 ^ k : Nat) : Int) := by rw [show (256 : Nat) = 2 ^ 8 from rfl, ← Nat.pow_mul]; simp
  rw [e1, e2, Int.fdiv_eq_ediv_of_nonneg _ (Int.natCast_nonneg _), ← Int.natCast_ediv, IntKind.wrap_u8]
  omega
def stD (dl : List Int) (a n : Nat) : List Int := touchL (touchL dl ((a / 256 : Nat) : Int)) (((a + n - 1) / 256 : Nat) : Int)
set_option maxRecDepth 100000 in
theorem mem_store (hN : Nq q m ∧ Nq d m ∧ Nq d q) (b : List Nat) (mo : Int) (dl : List Int) (hb : b.length ≤ 1000000) (hdl : dl.length ≤ 10000) (hs : dl.Pairwise (· < ·)) (a n : Nat) (x : Nat) (hx : x < 18446744073709551616) (h' : hasB b a n = true) : SCall Try.prog 13 [.ptr m 0, .int .i64 a, .int .i64 n, .int .u64 x] [(m, .box 54 [.own q 0 (b).length, .int .i64 (mo), .own d 0 (dl).length]), (q, .arr 5 1 ((b).map encU)), (d, .arr 3 1 ((dl).map encI))]
    (fun y σ => ∃ e, (Nq e m ∧ Nq e q) ∧ y = .bool true ∧ σ = [(m, .box 54 [.own q 0 (stN b a x n).length, .int .i64 (mo), .own e 0 (stD dl a n).length]), (q, .arr 5 1 ((stN b a x n).map encU)), (e, .arr 3 1 ((stD dl a n).map encI))]) := by
  obtain ⟨hN1, hN2, hN3⟩ := hN
  have hbd := hasB_bd h'
  refine scall_of (n := 44) (ks := [0, 1, 2, 3, 8, 9, 14, 15, 16, 17]) Try.func13 rfl rfl (Nat.le_of_ble_eq_true rfl) ?_
  (repeat (first | refine cs ?_ | refine cb ?_ | refine ck ?_ | refine cx ?_ | refine cr ?_ | refine an ?_ | refine ae ?_ | refine ar ?_ | refine bn ?_ | refine bh ?_ | refine be rfl ?_ | refine br ?_ | refine ct rfl ?_ | refine cf rfl ?_))
  first | refine sw_seq_region ?_ | refine sw_region ?_
  refine lo (lop_assign (E rfl)) rfl ?_
  apply le; (repeat (first | (apply KeepIs.take; rfl) | (apply KeepIs.skip; rfl) | exact KeepIs.nil))
  (repeat (first | refine cs ?_ | refine cb ?_ | refine ck ?_ | refine cx ?_ | refine cr ?_ | refine an ?_ | refine ae ?_ | refine ar ?_ | refine bn ?_ | refine bh ?_ | refine be rfl ?_ | refine br ?_ | refine ct rfl ?_ | refine cf rfl ?_))
  first | refine sw_seq_region ?_ | refine sw_region ?_
  refine lo (lop_move (E rfl)) rfl ?_
  refine lo (lop_move (E rfl)) rfl ?_
  refine lo (lop_move (E rfl)) rfl ?_
  refine pu [m, q, d] Try.call22 (mem_has b mo dl hb a n) rfl ?_ (by repeat (first | exact NoF.int | exact NoF.bool | exact NoF.nilp | exact NoF.nil | exact NoF.own | exact NoF.ptr | exact NoF.str | exact nofl_nil | apply NoF.tup | apply NoF.agg | apply nofl_cons)) ?_
  · (repeat (
       first
        | exact ArgsIf.nil
        | (apply ArgsIf.cons; (
         first
          | exact W rfl id
          | exact W rfl (fun _ => rfl)
          | exact E rfl); (
         first
          | exact Bor.refl _
          | exact Bor.le VLe.any
          | exact Bor.le VLe.empty
          | (apply bown; (repeat (
            first
             | exact List.mem_cons_self
             | apply List.mem_cons_of_mem)); (repeat (
            first
             | exact sget_here
             | (apply sget_next; (
              first
               | assumption
               | (apply Nq.en; assumption)
               | omega
               | (simp only [Nq] at *; omega))))); (
           first
            | focus (simp; done)
            | omega
            | focus (simp; omega)); (
           first
            | rfl
            | focus (simp; done)
            | focus (exact List.take_of_length_le (by
             first
              | (simp; done)
              | (simp; omega)))))
          | focus (apply bbox; (repeat (
            first
             | exact List.mem_cons_self
             | apply List.mem_cons_of_mem)); (repeat (
            first
             | exact sget_here
             | (apply sget_next; (
              first
               | assumption
               | (apply Nq.en; assumption)
               | omega
               | (simp only [Nq] at *; omega))))); rfl; rfl; (repeat (
            first
             | exact BorL.nil
             | (apply BorL.cons; (
              first
               | exact Bor.refl _
               | exact Bor.le VLe.any
               | exact Bor.le VLe.empty
               | (apply bown; (repeat (
                 first
                  | exact List.mem_cons_self
                  | apply List.mem_cons_of_mem)); (repeat (
                 first
                  | exact sget_here
                  | (apply sget_next; (
                   first
                    | assumption
                    | (apply Nq.en; assumption)
                    | omega
                    | (simp only [Nq] at *; omega))))); (
                first
                 | focus (simp; done)
                 | omega); (
                first
                 | rfl
                 | focus (simp; done)
                 | focus (exact List.take_of_length_le (by
                  first
                   | (simp; done)
                   | (simp; omega)))))
               | focus (apply Bor.le; apply VLe.of_eq; simp; done))))); done)
          | focus (apply bagg; (repeat (
            first
             | exact BorL.nil
             | (apply BorL.cons; (
              first
               | exact Bor.refl _
               | exact Bor.le VLe.any
               | exact Bor.le VLe.empty
               | (apply bown; (repeat (
                 first
                  | exact List.mem_cons_self
                  | apply List.mem_cons_of_mem)); (repeat (
                 first
                  | exact sget_here
                  | (apply sget_next; (
                   first
                    | assumption
                    | (apply Nq.en; assumption)
                    | omega
                    | (simp only [Nq] at *; omega))))); (
                first
                 | focus (simp; done)
                 | omega); (
                first
                 | rfl
                 | focus (simp; done)
                 | focus (exact List.take_of_length_le (by
                  first
                   | (simp; done)
                   | (simp; omega)))))
               | focus (apply Bor.le; apply VLe.of_eq; simp; done))))); done)
          | focus (apply Bor.le; apply VLe.of_eq; simp; done)))))
  rw [h']
  refine lo (lop_not (E rfl)) rfl ?_
  apply le; (repeat (first | (apply KeepIs.take; rfl) | (apply KeepIs.skip; rfl) | exact KeepIs.nil))
  (repeat (first | refine cs ?_ | refine cb ?_ | refine ck ?_ | refine cx ?_ | refine cr ?_ | refine an ?_ | refine ae ?_ | refine ar ?_ | refine bn ?_ | refine bh ?_ | refine be rfl ?_ | refine br ?_ | refine ct rfl ?_ | refine cf rfl ?_))
  (repeat (first | refine cs ?_ | refine cb ?_ | refine ck ?_ | refine cx ?_ | refine cr ?_ | refine an ?_ | refine ae ?_ | refine ar ?_ | refine bn ?_ | refine bh ?_ | refine be rfl ?_ | refine br ?_ | refine ct rfl ?_ | refine cf rfl ?_))
  first | refine sw_seq_region ?_ | refine sw_region ?_
  refine lo (lop_move (E rfl)) rfl ?_
  refine lo (lop_move (E rfl)) rfl ?_
  apply le; (repeat (first | (apply KeepIs.take; rfl) | (apply KeepIs.skip; rfl) | exact KeepIs.nil))
  (repeat (first | refine cs ?_ | refine cb ?_ | refine ck ?_ | refine cx ?_ | refine cr ?_ | refine an ?_ | refine ae ?_ | refine ar ?_ | refine bn ?_ | refine bh ?_ | refine be rfl ?_ | refine br ?_ | refine ct rfl ?_ | refine cf rfl ?_))
  refine lp (β := Nat) (fun k => ⟨[(0, .ptr m 0), (1, .int .i64 a), (2, .int .i64 n), (3, .int .u64 x), (8, .bool false), (15, .int .i64 n), (16, .int .i64 k)], [(m, .box 54 [.own q 0 (stN b a x k).length, .int .i64 (mo), .own d 0 (dl).length]), (q, .arr 5 1 ((stN b a x k).map encU)), (d, .arr 3 1 ((dl).map encI))]⟩) (fun k => k ≤ n) (fun k => n - k) 0 ?_ (Nat.zero_le _) ?_
  · rw [show stN b a x 0 = b from rfl]
    (refine sgo_st ?_ ?_ <;> (repeat (first | exact FrLe.nil | (apply FrLe.cons; rfl; first | exact VLe.refl _ | exact VLe.any | exact VLe.empty | exact VLe.of_eq (by simp) | exact VLe.of_eq (by congr 1; omega)) | exact StLe.nil | exact StLe.refl _ | (apply StLe.cons; (repeat (first | exact List.mem_cons_self | apply List.mem_cons_of_mem)); first | rfl | focus (congr 1; done) | focus (simp; done) | (simp; rfl)))))
  rintro k hk
  (repeat (first | refine cs ?_ | refine cb ?_ | refine ck ?_ | refine cx ?_ | refine cr ?_ | refine an ?_ | refine ae ?_ | refine ar ?_ | refine bn ?_ | refine bh ?_ | refine be rfl ?_ | refine br ?_ | refine ct rfl ?_ | refine cf rfl ?_))
  first | refine sw_seq_region ?_ | refine sw_region ?_
  refine lo (lop_lss (E rfl) (E rfl)) rfl ?_
  apply le; (repeat (first | (apply KeepIs.take; rfl) | (apply KeepIs.skip; rfl) | exact KeepIs.nil))
  (repeat (first | refine cs ?_ | refine cb ?_ | refine ck ?_ | refine cx ?_ | refine cr ?_ | refine an ?_ | refine ae ?_ | refine ar ?_ | refine bn ?_ | refine bh ?_ | refine be rfl ?_ | refine br ?_ | refine ct rfl ?_ | refine cf rfl ?_))
  have hsl := stN_len b a x k
  refine sw_cond rfl (fun h2 => ?_) (fun h2 => ?_)
  · have hlt : k < n := by simp at h2; omega
    have e1 : ((a : Int) + (k : Int)).toNat = a + k := by omega
    have e2 := shr_u8 (x := x) (k := k) (by omega) hx
    have e3 : IntKind.i64.wrap (8 * (k : Int)) = 8 * k := wrap_i64_of (by omega) (by omega)
    obtain ⟨z, hz⟩ : ∃ z, (stN b a x k)[((a : Int) + (k : Int)).toNat]? = some z := ⟨_, List.getElem?_eq_getElem (by omega)⟩
    (repeat (first | refine cs ?_ | refine cb ?_ | refine ck ?_ | refine cx ?_ | refine cr ?_ | refine an ?_ | refine ae ?_ | refine ar ?_ | refine bn ?_ | refine bh ?_ | refine be rfl ?_ | refine br ?_ | refine ct rfl ?_ | refine cf rfl ?_))
    first | refine sw_seq_region ?_ | refine sw_region ?_
    refine lo (lop_move (E rfl)) rfl ?_
    refine lo (lop_assign (E rfl)) rfl ?_
    apply le; (repeat (first | (apply KeepIs.take; rfl) | (apply KeepIs.skip; rfl) | exact KeepIs.nil))
    (repeat (first | refine cs ?_ | refine cb ?_ | refine ck ?_ | refine cx ?_ | refine cr ?_ | refine an ?_ | refine ae ?_ | refine ar ?_ | refine bn ?_ | refine bh ?_ | refine be rfl ?_ | refine br ?_ | refine ct rfl ?_ | refine cf rfl ?_))
    first | refine sw_seq_drawn [(0, true), (1, true), (2, true), (3, true), (4, true), (5, true), (6, true), (7, true), (8, true), (9, true), (10, true), (11, true), (12, true), (13, false)] mixed (by kernel_rfl) (by kernel_rfl) ?_ | refine sw_region_drawn [(0, true), (1, true), (2, true), (3, true), (4, true), (5, true), (6, true), (7, true), (8, true), (9, true), (10, true), (11, true), (12, true), (13, false)] mixed (by kernel_rfl) (by kernel_rfl) ?_
    refine dlo rfl (lop_move (E rfl)) rfl ?_
    first | refine dlo rfl (lop_nilCheck (E rfl) (.inl ⟨_, _, rfl⟩)) rfl ?_ | refine dlo rfl (lop_nilCheck (E rfl) (.inr (.inl ⟨_, _, _, rfl⟩))) rfl ?_ | refine dlo rfl (lop_nilCheck (E rfl) (.inr (.inr ⟨_, _, _, _, rfl⟩))) rfl ?_
    first | refine dlo rfl (lop_field_ptr (E rfl) rfl (by decide)) rfl ?_ | refine dlo rfl (lop_field_el (E rfl) rfl (by decide)) rfl ?_
    first | refine dlo rfl (lop_load_ptr (E rfl) rfl (by repeat (first | exact sget_here | refine sget_next (by (first | assumption | (apply Nq.en; assumption) | omega | (simp only [Nq] at *; omega))) ?_)) (fun _ => rfl)) rfl ?_ | refine dlo rfl (lop_load_el (E rfl) rfl (fun hc => by first | rfl | exact get_map (by assumption) | assumption | exact get_map (at_bang (by omega))) (fun _ => rfl)) rfl ?_
    refine dlo rfl (lop_move (E rfl)) rfl ?_
    refine dlo rfl (lop_move (E rfl)) rfl ?_
    first | refine dlo rfl (lop_add64 (E rfl) (E rfl) (by omega) (by omega)) rfl ?_ | refine dlo rfl (lop_add (E rfl) (E rfl)) rfl ?_
    refine dlo rfl (lop_move (E rfl)) rfl ?_
    refine dlo rfl (lop_move (E rfl)) rfl ?_
    refine dlo rfl (lop_mul (E rfl) (E rfl)) rfl ?_
    refine dlo rfl (lop_shr (E rfl) (E rfl) (fun _ => by first | decide | omega)) rfl ?_
    first | refine dlo rfl (lop_conv_in (E rfl) (wrap_u8_of (by omega) (by omega))) rfl ?_ | refine dlo rfl (lop_conv (E rfl)) rfl ?_
    first | refine dlo rfl (lop_index_ro (E rfl) (E rfl) (fun hc => by (simp only [List.length_map]; omega))) rfl ?_ | refine dlo rfl (lop_index_own0 (E rfl) (by repeat (first | exact sget_here | refine sget_next (by (first | assumption | (apply Nq.en; assumption) | omega | (simp only [Nq] at *; omega))) ?_)) (E rfl) (fun hc => by omega)) rfl ?_ | refine dlo rfl (lop_index_own (E rfl) (by repeat (first | exact sget_here | refine sget_next (by (first | assumption | (apply Nq.en; assumption) | omega | (simp only [Nq] at *; omega))) ?_)) (E rfl) (fun hc => by omega)) rfl ?_
    apply dsto; rfl; infer_instance; rfl; rfl; rfl; rfl; (repeat (first | (apply SSet.here; (repeat (first | exact Fresh.nil | (apply Fresh.cons; (first | assumption | (apply Nq.en; assumption) | omega | (simp only [Nq] at *; omega)))))) | (apply SSet.next; (first | assumption | (apply Nq.en; assumption) | omega | (simp only [Nq] at *; omega))))); (first | rfl | exact get_map (by assumption) | assumption); (repeat (first | exact Put.done | apply Put.put | apply Put.skip)); rfl; (repeat (first | exact HB.nil | apply HB.none | (apply HB.ok; focus (simp only [List.mem_cons, List.not_mem_nil, or_false, List.map_cons, List.map_nil, forall_eq_or_imp, forall_eq, true_or, or_true, true_and, not_or]; (repeat' (first | apply And.intro | (first | assumption | (apply Nq.en; assumption) | omega | (simp only [Nq] at *; omega)))); done)) | (apply HB.waits; kernel_rfl)))
    apply de; (repeat (first | (apply KeepIs.take; rfl) | (apply KeepIs.skip; rfl) | exact KeepIs.nil))
    (repeat (first | refine cs ?_ | refine cb ?_ | refine ck ?_ | refine cx ?_ | refine cr ?_ | refine an ?_ | refine ae ?_ | refine ar ?_ | refine bn ?_ | refine bh ?_ | refine be rfl ?_ | refine br ?_ | refine ct rfl ?_ | refine cf rfl ?_))
    first | refine sw_seq_region ?_ | refine sw_region ?_
    first | refine lo (lop_add64 (E rfl) (E rfl) (by omega) (by omega)) rfl ?_ | refine lo (lop_add (E rfl) (E rfl)) rfl ?_
    refine lo (lop_move (E rfl)) rfl ?_
    apply le; (repeat (first | (apply KeepIs.take; rfl) | (apply KeepIs.skip; rfl) | exact KeepIs.nil))
    (repeat (first | refine cs ?_ | refine cb ?_ | refine ck ?_ | refine cx ?_ | refine cr ?_ | refine an ?_ | refine ae ?_ | refine ar ?_ | refine bn ?_ | refine bh ?_ | refine be rfl ?_ | refine br ?_ | refine ct rfl ?_ | refine cf rfl ?_))
    refine ⟨k + 1, hlt, by show n - (k + 1) < n - k; omega, ?_⟩
    rw [e3, e2, e1, set_encU, ← show stN b a x (k + 1) = (stN b a x k).set (a + k) (x / 256 ^ k % 256) from rfl, hsl, ← stN_len b a x (k + 1)]
    (refine sgo_st ?_ ?_ <;> (repeat (first | exact FrLe.nil | (apply FrLe.cons; rfl; first | exact VLe.refl _ | exact VLe.any | exact VLe.empty | exact VLe.of_eq (by simp) | exact VLe.of_eq (by congr 1; omega)) | exact StLe.nil | exact StLe.refl _ | (apply StLe.cons; (repeat (first | exact List.mem_cons_self | apply List.mem_cons_of_mem)); first | rfl | focus (congr 1; done) | focus (simp; done) | (simp; rfl)))))
  obtain rfl : k = n := by simp at h2; omega
  have hq1 := quo256 (n := a) (by omega)
  have hq2 := quo256 (n := a + k - 1) (by omega)
  have hk1 : ((a : Int) + (k : Int) - 1) = ((a + k - 1 : Nat) : Int) := by omega
  (repeat (first | refine cs ?_ | refine cb ?_ | refine ck ?_ | refine cx ?_ | refine cr ?_ | refine an ?_ | refine ae ?_ | refine ar ?_ | refine bn ?_ | refine bh ?_ | refine be rfl ?_ | refine br ?_ | refine ct rfl ?_ | refine cf rfl ?_))
  first | refine sw_seq_region ?_ | refine sw_region ?_
  refine lo (lop_move (E rfl)) rfl ?_
  refine lo (lop_move (E rfl)) rfl ?_
  refine lo (lop_quo (E rfl) (E rfl) (fun _ => by first | decide | omega)) rfl ?_
  rw [hq1]
  refine cw [(m, .box 54 [.own q 0 (stN b a x k).length, .int .i64 (mo), .own d 0 (dl).length]), (q, .arr 5 1 ((stN b a x k).map encU)), (d, .arr 3 1 ((dl).map encI))] Try.call23 (mem_touch ⟨hN1, hN2, hN3⟩ (stN b a x k) mo dl (by omega) hs ((a / 256 : Nat) : Int)) rfl ?_ ?_ ?_
  · (repeat (first | exact ArgsLe.nil | (apply ArgsLe.cons; rfl; first | exact VLe.refl _ | exact VLe.when rfl | exact VLe.any | exact VLe.empty | exact VLe.of_eq (by simp))))
  · (first | exact no_mem | exact (fun _ h => h) | (apply StLe.mem; (repeat (first | exact StLe.nil | (apply StLe.cons; (repeat (first | exact List.mem_cons_self | apply List.mem_cons_of_mem)); first | rfl | focus (congr 1; done) | focus (simp; done) | (simp; rfl))))))
  rintro y σ' ⟨e, ⟨he1, he2⟩, rfl⟩ -
  (apply rs_sto; (first | (simp (disch := (first | (simp only [List.mem_cons, List.not_mem_nil, true_or, or_true, or_false]; done) | (focus (simp only [List.mem_cons, List.not_mem_nil, or_false, not_or]; (repeat' (first | apply And.intro | (first | assumption | (apply Nq.en; assumption) | omega | (simp only [Nq] at *; omega)))); done)) | omega)) only [↓put_σ, ↓mk_σ, AV.cells, sset, sdrop_none, sdrop_nil, sdrop_in, sdrop_out, List.nil_append, List.cons_append, List.append_nil, List.map_nil, List.map_cons, List.take_succ_cons, List.take_zero, List.drop_succ_cons, List.drop_zero, take_len', take_map_len, Nat.zero_add, Nat.add_zero, ofCell, ofConst]; rfl) | rfl))
  apply le; (repeat (first | (apply KeepIs.take; rfl) | (apply KeepIs.skip; rfl) | exact KeepIs.nil))
  (repeat (first | refine cs ?_ | refine cb ?_ | refine ck ?_ | refine cx ?_ | refine cr ?_ | refine an ?_ | refine ae ?_ | refine ar ?_ | refine bn ?_ | refine bh ?_ | refine be rfl ?_ | refine br ?_ | refine ct rfl ?_ | refine cf rfl ?_))
  have htl := touchL_len dl ((a / 256 : Nat) : Int)
  have hts := touchL_sorted hs ((a / 256 : Nat) : Int)
  first | refine sw_seq_region ?_ | refine sw_region ?_
  refine lo (lop_move (E rfl)) rfl ?_
  refine lo (lop_move (E rfl)) rfl ?_
  refine lo (lop_move (E rfl)) rfl ?_
  first | refine lo (lop_add64 (E rfl) (E rfl) (by omega) (by omega)) rfl ?_ | refine lo (lop_add (E rfl) (E rfl)) rfl ?_
  first | refine lo (lop_sub64 (E rfl) (E rfl) (by omega) (by omega)) rfl ?_ | refine lo (lop_sub (E rfl) (E rfl)) rfl ?_
  refine lo (lop_quo (E rfl) (E rfl) (fun _ => by first | decide | omega)) rfl ?_
  rw [hk1, hq2]
  refine cw [(m, .box 54 [.own q 0 (stN b a x k).length, .int .i64 (mo), .own e 0 (touchL dl ((a / 256 : Nat) : Int)).length]), (q, .arr 5 1 ((stN b a x k).map encU)), (e, .arr 3 1 ((touchL dl ((a / 256 : Nat) : Int)).map encI))] Try.call23 (mem_touch ⟨hN1, by (first | assumption | (apply Nq.en; assumption) | omega | (simp only [Nq] at *; omega)), by (first | assumption | (apply Nq.en; assumption) | omega | (simp only [Nq] at *; omega))⟩ (stN b a x k) mo _ (by omega) hts (((a + k - 1) / 256 : Nat) : Int)) rfl ?_ ?_ ?_
  · (repeat (first | exact ArgsLe.nil | (apply ArgsLe.cons; rfl; first | exact VLe.refl _ | exact VLe.when rfl | exact VLe.any | exact VLe.empty | exact VLe.of_eq (by simp))))
  · (first | exact no_mem | exact (fun _ h => h) | (apply StLe.mem; (repeat (first | exact StLe.nil | (apply StLe.cons; (repeat (first | exact List.mem_cons_self | apply List.mem_cons_of_mem)); first | rfl | focus (congr 1; done) | focus (simp; done) | (simp; rfl))))))
  rintro y2 σ2 ⟨e2, ⟨k1, k2⟩, rfl⟩ -
  (apply rs_sto; (first | (simp (disch := (first | (simp only [List.mem_cons, List.not_mem_nil, true_or, or_true, or_false]; done) | (focus (simp only [List.mem_cons, List.not_mem_nil, or_false, not_or]; (repeat' (first | apply And.intro | (first | assumption | (apply Nq.en; assumption) | omega | (simp only [Nq] at *; omega)))); done)) | omega)) only [↓put_σ, ↓mk_σ, AV.cells, sset, sdrop_none, sdrop_nil, sdrop_in, sdrop_out, List.nil_append, List.cons_append, List.append_nil, List.map_nil, List.map_cons, List.take_succ_cons, List.take_zero, List.drop_succ_cons, List.drop_zero, take_len', take_map_len, Nat.zero_add, Nat.add_zero, ofCell, ofConst]; rfl) | rfl))
  apply le; (repeat (first | (apply KeepIs.take; rfl) | (apply KeepIs.skip; rfl) | exact KeepIs.nil))
  (repeat (first | refine cs ?_ | refine cb ?_ | refine ck ?_ | refine cx ?_ | refine cr ?_ | refine an ?_ | refine ae ?_ | refine ar ?_ | refine bn ?_ | refine bh ?_ | refine be rfl ?_ | refine br ?_ | refine ct rfl ?_ | refine cf rfl ?_))
  first | refine sw_seq_region ?_ | refine sw_region ?_
  refine lo (lop_assign (E rfl)) rfl ?_
  apply le; (repeat (first | (apply KeepIs.take; rfl) | (apply KeepIs.skip; rfl) | exact KeepIs.nil))
  (repeat (first | refine cs ?_ | refine cb ?_ | refine ck ?_ | refine cx ?_ | refine cr ?_ | refine an ?_ | refine ae ?_ | refine ar ?_ | refine bn ?_ | refine bh ?_ | refine be rfl ?_ | refine br ?_ | refine ct rfl ?_ | refine cf rfl ?_))
  (apply aend; (repeat (first | exact ResL.nil | (apply ResL.tmp; rfl) | (apply ResL.cell; rfl; infer_instance; rfl; (repeat (first | exact sget_here | (apply sget_next; (first | assumption | (apply Nq.en; assumption) | omega | (simp only [Nq] at *; omega))))); rfl) | (apply ResL.cells; rfl; infer_instance; infer_instance; rfl; (repeat (first | exact sget_here | (apply sget_next; (first | assumption | (apply Nq.en; assumption) | omega | (simp only [Nq] at *; omega))))); exact Nat.le_of_ble_eq_true rfl))))
  · exact ⟨e2, ⟨by (first | assumption | (apply Nq.en; assumption) | omega | (simp only [Nq] at *; omega)), by (first | assumption | (apply Nq.en; assumption) | omega | (simp only [Nq] at *; omega))⟩, rfl, rfl⟩
  · (first | exact no_mem | exact (fun _ h => h) | (apply StLe.mem; (repeat (first | exact StLe.nil | (apply StLe.cons; (repeat (first | exact List.mem_cons_self | apply List.mem_cons_of_mem)); first | rfl | focus (congr 1; done) | focus (simp; done) | (simp; rfl))))))
set_option maxRecDepth 100000 in
theorem mem_store_no (hN : Nq q m ∧ Nq d m ∧ Nq d q) (b : List Nat) (mo : Int) (dl : List Int) (hb : b.length ≤ 1000000) (a n : Int) (x : Int) (h' : hasB b a n = false) : SCall Try.prog 13 [.ptr m 0, .int .i64 a, .int .i64 n, .int .u64 x] [(m, .box 54 [.own q 0 (b).length, .int .i64 (mo), .own d 0 (dl).length]), (q, .arr 5 1 ((b).map encU)), (d, .arr 3 1 ((dl).map encI))]
    (fun y σ => y = .bool false ∧ σ = [(m, .box 54 [.own q 0 (b).length, .int .i64 (mo), .own d 0 (dl).length]), (q, .arr 5 1 ((b).map encU)), (d, .arr 3 1 ((dl).map encI))]) := by
  obtain ⟨hN1, hN2, hN3⟩ := hN
  refine scall_of (n := 44) (ks := [0, 1, 2, 3, 8, 9, 14, 15, 16, 17]) Try.func13 rfl rfl (Nat.le_of_ble_eq_true rfl) ?_
  (repeat (first | refine cs ?_ | refine cb ?_ | refine ck ?_ | refine cx ?_ | refine cr ?_ | refine an ?_ | refine ae ?_ | refine ar ?_ | refine bn ?_ | refine bh ?_ | refine be rfl ?_ | refine br ?_ | refine ct rfl ?_ | refine cf rfl ?_))
  first | refine sw_seq_region ?_ | refine sw_region ?_
  refine lo (lop_assign (E rfl)) rfl ?_
  apply le; (repeat (first | (apply KeepIs.take; rfl) | (apply KeepIs.skip; rfl) | exact KeepIs.nil))
  (repeat (first | refine cs ?_ | refine cb ?_ | refine ck ?_ | refine cx ?_ | refine cr ?_ | refine an ?_ | refine ae ?_ | refine ar ?_ | refine bn ?_ | refine bh ?_ | refine be rfl ?_ | refine br ?_ | refine ct rfl ?_ | refine cf rfl ?_))
  first | refine sw_seq_region ?_ | refine sw_region ?_
  refine lo (lop_move (E rfl)) rfl ?_
  refine lo (lop_move (E rfl)) rfl ?_
  refine lo (lop_move (E rfl)) rfl ?_
  refine pu [m, q, d] Try.call22 (mem_has b mo dl hb a n) rfl ?_ (by repeat (first | exact NoF.int | exact NoF.bool | exact NoF.nilp | exact NoF.nil | exact NoF.own | exact NoF.ptr | exact NoF.str | exact nofl_nil | apply NoF.tup | apply NoF.agg | apply nofl_cons)) ?_
  · (repeat (
       first
        | exact ArgsIf.nil
        | (apply ArgsIf.cons; (
         first
          | exact W rfl id
          | exact W rfl (fun _ => rfl)
          | exact E rfl); (
         first
          | exact Bor.refl _
          | exact Bor.le VLe.any
          | exact Bor.le VLe.empty
          | (apply bown; (repeat (
            first
             | exact List.mem_cons_self
             | apply List.mem_cons_of_mem)); (repeat (
            first
             | exact sget_here
             | (apply sget_next; (
              first
               | assumption
               | (apply Nq.en; assumption)
               | omega
               | (simp only [Nq] at *; omega))))); (
           first
            | focus (simp; done)
            | omega
            | focus (simp; omega)); (
           first
            | rfl
            | focus (simp; done)
            | focus (exact List.take_of_length_le (by
             first
              | (simp; done)
              | (simp; omega)))))
          | focus (apply bbox; (repeat (
            first
             | exact List.mem_cons_self
             | apply List.mem_cons_of_mem)); (repeat (
            first
             | exact sget_here
             | (apply sget_next; (
              first
               | assumption
               | (apply Nq.en; assumption)
               | omega
               | (simp only [Nq] at *; omega))))); rfl; rfl; (repeat (
            first
             | exact BorL.nil
             | (apply BorL.cons; (
              first
               | exact Bor.refl _
               | exact Bor.le VLe.any
               | exact Bor.le VLe.empty
               | (apply bown; (repeat (
                 first
                  | exact List.mem_cons_self
                  | apply List.mem_cons_of_mem)); (repeat (
                 first
                  | exact sget_here
                  | (apply sget_next; (
                   first
                    | assumption
                    | (apply Nq.en; assumption)
                    | omega
                    | (simp only [Nq] at *; omega))))); (
                first
                 | focus (simp; done)
                 | omega); (
                first
                 | rfl
                 | focus (simp; done)
                 | focus (exact List.take_of_length_le (by
                  first
                   | (simp; done)
                   | (simp; omega)))))
               | focus (apply Bor.le; apply VLe.of_eq; simp; done))))); done)
          | focus (apply bagg; (repeat (
            first
             | exact BorL.nil
             | (apply BorL.cons; (
              first
               | exact Bor.refl _
               | exact Bor.le VLe.any
               | exact Bor.le VLe.empty
               | (apply bown; (repeat (
                 first
                  | exact List.mem_cons_self
                  | apply List.mem_cons_of_mem)); (repeat (
                 first
                  | exact sget_here
                  | (apply sget_next; (
                   first
                    | assumption
                    | (apply Nq.en; assumption)
                    | omega
                    | (simp only [Nq] at *; omega))))); (
                first
                 | focus (simp; done)
                 | omega); (
                first
                 | rfl
                 | focus (simp; done)
                 | focus (exact List.take_of_length_le (by
                  first
                   | (simp; done)
                   | (simp; omega)))))
               | focus (apply Bor.le; apply VLe.of_eq; simp; done))))); done)
          | focus (apply Bor.le; apply VLe.of_eq; simp; done)))))
  rw [h']
  refine lo (lop_not (E rfl)) rfl ?_
  apply le; (repeat (first | (apply KeepIs.take; rfl) | (apply KeepIs.skip; rfl) | exact KeepIs.nil))
  (repeat (first | refine cs ?_ | refine cb ?_ | refine ck ?_ | refine cx ?_ | refine cr ?_ | refine an ?_ | refine ae ?_ | refine ar ?_ | refine bn ?_ | refine bh ?_ | refine be rfl ?_ | refine br ?_ | refine ct rfl ?_ | refine cf rfl ?_))
  (repeat (first | refine cs ?_ | refine cb ?_ | refine ck ?_ | refine cx ?_ | refine cr ?_ | refine an ?_ | refine ae ?_ | refine ar ?_ | refine bn ?_ | refine bh ?_ | refine be rfl ?_ | refine br ?_ | refine ct rfl ?_ | refine cf rfl ?_))
  first | refine sw_seq_region ?_ | refine sw_region ?_
  refine lo (lop_assign (E rfl)) rfl ?_
  apply le; (repeat (first | (apply KeepIs.take; rfl) | (apply KeepIs.skip; rfl) | exact KeepIs.nil))
  (repeat (first | refine cs ?_ | refine cb ?_ | refine ck ?_ | refine cx ?_ | refine cr ?_ | refine an ?_ | refine ae ?_ | refine ar ?_ | refine bn ?_ | refine bh ?_ | refine be rfl ?_ | refine br ?_ | refine ct rfl ?_ | refine cf rfl ?_))
  (apply aend; (repeat (first | exact ResL.nil | (apply ResL.tmp; rfl) | (apply ResL.cell; rfl; infer_instance; rfl; (repeat (first | exact sget_here | (apply sget_next; (first | assumption | (apply Nq.en; assumption) | omega | (simp only [Nq] at *; omega))))); rfl) | (apply ResL.cells; rfl; infer_instance; infer_instance; rfl; (repeat (first | exact sget_here | (apply sget_next; (first | assumption | (apply Nq.en; assumption) | omega | (simp only [Nq] at *; omega))))); exact Nat.le_of_ble_eq_true rfl))))
  · exact ⟨rfl, rfl⟩
  · (first | exact no_mem | exact (fun _ h => h) | (apply StLe.mem; (repeat (first | exact StLe.nil | (apply StLe.cons; (repeat (first | exact List.mem_cons_self | apply List.mem_cons_of_mem)); first | rfl | focus (congr 1; done) | focus (simp; done) | (simp; rfl))))))
set_option maxRecDepth 100000 in
theorem nil_store (a n x : Int) : SCall Try.prog 13 [.nilp, .int .i64 a, .int .i64 n, .int .u64 x] [] (fun y σ => y = .bool false ∧ σ = []) := by
  refine scall_of (n := 44) (ks := [0, 1, 2, 3, 8, 9, 14, 15, 16, 17]) Try.func13 rfl rfl (Nat.le_of_ble_eq_true rfl) ?_
  (repeat (first | refine cs ?_ | refine cb ?_ | refine ck ?_ | refine cx ?_ | refine cr ?_ | refine an ?_ | refine ae ?_ | refine ar ?_ | refine bn ?_ | refine bh ?_ | refine be rfl ?_ | refine br ?_ | refine ct rfl ?_ | refine cf rfl ?_))
  first | refine sw_seq_region ?_ | refine sw_region ?_
  refine lo (lop_assign (E rfl)) rfl ?_
  apply le; (repeat (first | (apply KeepIs.take; rfl) | (apply KeepIs.skip; rfl) | exact KeepIs.nil))
  (repeat (first | refine cs ?_ | refine cb ?_ | refine ck ?_ | refine cx ?_ | refine cr ?_ | refine an ?_ | refine ae ?_ | refine ar ?_ | refine bn ?_ | refine bh ?_ | refine be rfl ?_ | refine br ?_ | refine ct rfl ?_ | refine cf rfl ?_))
  first | refine sw_seq_region ?_ | refine sw_region ?_
  refine lo (lop_move (E rfl)) rfl ?_
  refine lo (lop_move (E rfl)) rfl ?_
  refine lo (lop_move (E rfl)) rfl ?_
  (
      first
       | refine ln rfl rfl rfl rfl ?_
       | refine lw rfl rfl (lop_no (v := .bool false)) rfl ?_
       | refine pu [] Try.call22 (nil_has a n) rfl (by repeat (
        first
         | exact ArgsIf.nil
         | refine ArgsIf.cons (by
         first
          | exact Ev.when rfl (by
          first
           | exact id
           | simp)
          | exact Ev.here rfl) (by
         first
          | exact Bor.refl _
          | exact Bor.le VLe.any
          | exact Bor.le VLe.empty
          | exact Bor.own (by simp) (by repeat (
           first
            | exact sget_here
            | refine sget_next (by (
             first
              | assumption
              | (apply Nq.en; assumption)
              | omega
              | (simp only [Nq] at *; omega))) ?_)) (by simp)
          | exact Bor.le (VLe.of_eq (by simp))) ?_)) (by repeat (
        first
         | exact NoF.int
         | exact NoF.bool
         | exact NoF.nilp
         | exact NoF.nil
         | exact NoF.own
         | exact NoF.ptr
         | exact NoF.str
         | exact nofl_nil
         | apply NoF.tup
         | apply NoF.agg
         | apply nofl_cons)) ?_
       | refine pug [] rfl rfl Try.call22 (fun _ => (nil_has a n)) rfl (by repeat (
        first
         | exact ArgsIf.nil
         | refine ArgsIf.cons (by
         first
          | exact Ev.when rfl (by
          first
           | exact id
           | simp)
          | exact Ev.here rfl) (by
         first
          | exact Bor.refl _
          | exact Bor.le VLe.any
          | exact Bor.le VLe.empty
          | exact Bor.own (by simp) (by repeat (
           first
            | exact sget_here
            | refine sget_next (by (
             first
              | assumption
              | (apply Nq.en; assumption)
              | omega
              | (simp only [Nq] at *; omega))) ?_)) (by simp)
          | exact Bor.le (VLe.of_eq (by simp))) ?_)) (by repeat (
        first
         | exact NoF.int
         | exact NoF.bool
         | exact NoF.nilp
         | exact NoF.nil
         | exact NoF.own
         | exact NoF.ptr
         | exact NoF.str
         | exact nofl_nil
         | apply NoF.tup
         | apply NoF.agg
         | apply nofl_cons)) ?_
       | refine puw [] rfl rfl Try.call22 (fun _ => (nil_has a n)) rfl (by repeat (
        first
         | exact ArgsIf.nil
         | refine ArgsIf.cons (by
         first
          | exact Ev.when rfl (by
          first
           | exact id
           | simp)
          | exact Ev.here rfl) (by
         first
          | exact Bor.refl _
          | exact Bor.le VLe.any
          | exact Bor.le VLe.empty
          | exact Bor.own (by simp) (by repeat (
           first
            | exact sget_here
            | refine sget_next (by (
             first
              | assumption
              | (apply Nq.en; assumption)
              | omega
              | (simp only [Nq] at *; omega))) ?_)) (by simp)
          | exact Bor.le (VLe.of_eq (by simp))) ?_)) (by repeat (
        first
         | exact NoF.int
         | exact NoF.bool
         | exact NoF.nilp
         | exact NoF.nil
         | exact NoF.own
         | exact NoF.ptr
         | exact NoF.str
         | exact nofl_nil
         | apply NoF.tup
         | apply NoF.agg
         | apply nofl_cons)) ?_)
  refine lo (lop_not (E rfl)) rfl ?_
  apply le; (repeat (first | (apply KeepIs.take; rfl) | (apply KeepIs.skip; rfl) | exact KeepIs.nil))
  (repeat (first | refine cs ?_ | refine cb ?_ | refine ck ?_ | refine cx ?_ | refine cr ?_ | refine an ?_ | refine ae ?_ | refine ar ?_ | refine bn ?_ | refine bh ?_ | refine be rfl ?_ | refine br ?_ | refine ct rfl ?_ | refine cf rfl ?_))
  first | refine sw_seq_region ?_ | refine sw_region ?_
  refine lo (lop_assign (E rfl)) rfl ?_
  apply le; (repeat (first | (apply KeepIs.take; rfl) | (apply KeepIs.skip; rfl) | exact KeepIs.nil))
  (repeat (first | refine cs ?_ | refine cb ?_ | refine ck ?_ | refine cx ?_ | refine cr ?_ | refine an ?_ | refine ae ?_ | refine ar ?_ | refine bn ?_ | refine bh ?_ | refine be rfl ?_ | refine br ?_ | refine ct rfl ?_ | refine cf rfl ?_))
  (apply aend; (repeat (first | exact ResL.nil | (apply ResL.tmp; rfl) | (apply ResL.cell; rfl; infer_instance; rfl; (repeat (first | exact sget_here | (apply sget_next; (first | assumption | (apply Nq.en; assumption) | omega | (simp only [Nq] at *; omega))))); rfl) | (apply ResL.cells; rfl; infer_instance; infer_instance; rfl; (repeat (first | exact sget_here | (apply sget_next; (first | assumption | (apply Nq.en; assumption) | omega | (simp only [Nq] at *; omega))))); exact Nat.le_of_ble_eq_true rfl))))
  · exact ⟨rfl, rfl⟩
  · (first | exact no_mem | exact (fun _ h => h) | (apply StLe.mem; (repeat (first | exact StLe.nil | (apply StLe.cons; (repeat (first | exact List.mem_cons_self | apply List.mem_cons_of_mem)); first | rfl | focus (congr 1; done) | focus (simp; done) | (simp; rfl))))))
set_option maxRecDepth 100000 in
theorem mem_clean (hN : Nq q m ∧ Nq d m ∧ Nq d q) (b : List Nat) (mo : Int) (dl : List Int) : SCall Try.prog 20 [.ptr m 0] [(m, .box 54 [.own q 0 (b).length, .int .i64 (mo), .own d 0 (dl).length]), (q, .arr 5 1 ((b).map encU)), (d, .arr 3 1 ((dl).map encI))]
    (fun x σ => ∃ e, (Nq e m ∧ Nq e q) ∧ σ = [(m, .box 54 [.own q 0 (b).length, .int .i64 (mo), .own e 0 (([] : List Int)).length]), (q, .arr 5 1 ((b).map encU)), (e, .arr 3 1 ((([] : List Int)).map encI))]) := by
  obtain ⟨hN1, hN2, hN3⟩ := hN
  refine scall_of (n := 7) (ks := [0, 3]) Try.func20 rfl rfl (Nat.le_of_ble_eq_true rfl) ?_
  (repeat (first | refine cs ?_ | refine cb ?_ | refine ck ?_ | refine cx ?_ | refine cr ?_ | refine an ?_ | refine ae ?_ | refine ar ?_ | refine bn ?_ | refine bh ?_ | refine be rfl ?_ | refine br ?_ | refine ct rfl ?_ | refine cf rfl ?_))
  first | refine sw_seq_region ?_ | refine sw_region ?_
  refine lo (lop_move (E rfl)) rfl ?_
  first | refine lo (lop_pneq (E rfl) (E rfl) (.inl ⟨rfl, rfl⟩)) rfl ?_ | refine lo (lop_pneq (E rfl) (E rfl) (.inr (.inl ⟨⟨_, _, rfl⟩, rfl⟩))) rfl ?_ | refine lo (lop_pneq (E rfl) (E rfl) (.inr (.inr (.inl ⟨⟨_, _, _, rfl⟩, rfl⟩)))) rfl ?_ | refine lo (lop_pneq (E rfl) (E rfl) (.inr (.inr (.inr ⟨⟨_, _, _, _, rfl⟩, rfl⟩)))) rfl ?_
  apply le; (repeat (first | (apply KeepIs.take; rfl) | (apply KeepIs.skip; rfl) | exact KeepIs.nil))
  (repeat (first | refine cs ?_ | refine cb ?_ | refine ck ?_ | refine cx ?_ | refine cr ?_ | refine an ?_ | refine ae ?_ | refine ar ?_ | refine bn ?_ | refine bh ?_ | refine be rfl ?_ | refine br ?_ | refine ct rfl ?_ | refine cf rfl ?_))
  first | refine sw_seq_region ?_ | refine sw_region ?_
  refine lo (lop_move (E rfl)) rfl ?_
  first | refine lo (lop_nilCheck (E rfl) (.inl ⟨_, _, rfl⟩)) rfl ?_ | refine lo (lop_nilCheck (E rfl) (.inr (.inl ⟨_, _, _, rfl⟩))) rfl ?_ | refine lo (lop_nilCheck (E rfl) (.inr (.inr ⟨_, _, _, _, rfl⟩))) rfl ?_
  first | refine lo (lop_field_ptr (E rfl) rfl (by decide)) rfl ?_ | refine lo (lop_field_el (E rfl) rfl (by decide)) rfl ?_
  apply stp; rfl; rfl; rfl; rfl; (repeat (first | (apply SPut.here; (repeat (first | exact Put.done | apply Put.put | apply Put.skip)); (repeat (first | exact Fresh.nil | (apply Fresh.cons; (first | assumption | (apply Nq.en; assumption) | omega | (simp only [Nq] at *; omega)))))) | (apply SPut.next; (first | assumption | (apply Nq.en; assumption) | omega | (simp only [Nq] at *; omega)))))
  refine rs_virt_box m 2 3 1 (by decide) (by repeat (first | exact sget_here | refine sget_next (by (first | assumption | (apply Nq.en; assumption) | omega | (simp only [Nq] at *; omega))) ?_)) rfl (by decide) fun e he => ?_
  simp only [fresh_cons, fresh_nil, and_true] at he; (repeat (rcases he with ⟨_, he⟩))
  apply Exists.intro; apply And.intro; (repeat (first | (apply SSet.here; (repeat (first | exact Fresh.nil | (apply Fresh.cons; (first | assumption | (apply Nq.en; assumption) | omega | (simp only [Nq] at *; omega)))))) | (apply SSet.next; (first | assumption | (apply Nq.en; assumption) | omega | (simp only [Nq] at *; omega)))))
  apply le; (repeat (first | (apply KeepIs.take; rfl) | (apply KeepIs.skip; rfl) | exact KeepIs.nil))
  (repeat (first | refine cs ?_ | refine cb ?_ | refine ck ?_ | refine cx ?_ | refine cr ?_ | refine an ?_ | refine ae ?_ | refine ar ?_ | refine bn ?_ | refine bh ?_ | refine be rfl ?_ | refine br ?_ | refine ct rfl ?_ | refine cf rfl ?_))
  (apply aend; (repeat (first | exact ResL.nil | (apply ResL.tmp; rfl) | (apply ResL.cell; rfl; infer_instance; rfl; (repeat (first | exact sget_here | (apply sget_next; (first | assumption | (apply Nq.en; assumption) | omega | (simp only [Nq] at *; omega))))); rfl) | (apply ResL.cells; rfl; infer_instance; infer_instance; rfl; (repeat (first | exact sget_here | (apply sget_next; (first | assumption | (apply Nq.en; assumption) | omega | (simp only [Nq] at *; omega))))); exact Nat.le_of_ble_eq_true rfl))))
  · exact ⟨e, ⟨by (first | assumption | (apply Nq.en; assumption) | omega | (simp only [Nq] at *; omega)), by (first | assumption | (apply Nq.en; assumption) | omega | (simp only [Nq] at *; omega))⟩, rfl⟩
  · (first | exact no_mem | exact (fun _ h => h) | (apply StLe.mem; (repeat (first | exact StLe.nil | (apply StLe.cons; (repeat (first | exact List.mem_cons_self | apply List.mem_cons_of_mem)); first | rfl | focus (congr 1; done) | focus (simp; done) | (simp; rfl))))))
set_option maxRecDepth 100000 in
theorem nil_clean : SCall Try.prog 20 [.nilp] [] (fun x σ => σ = []) := by
  refine scall_of (n := 7) (ks := [0, 3]) Try.func20 rfl rfl (Nat.le_of_ble_eq_true rfl) ?_
  (repeat (first | refine cs ?_ | refine cb ?_ | refine ck ?_ | refine cx ?_ | refine cr ?_ | refine an ?_ | refine ae ?_ | refine ar ?_ | refine bn ?_ | refine bh ?_ | refine be rfl ?_ | refine br ?_ | refine ct rfl ?_ | refine cf rfl ?_))
  first | refine sw_seq_region ?_ | refine sw_region ?_
  refine lo (lop_move (E rfl)) rfl ?_
  first | refine lo (lop_pneq (E rfl) (E rfl) (.inl ⟨rfl, rfl⟩)) rfl ?_ | refine lo (lop_pneq (E rfl) (E rfl) (.inr (.inl ⟨⟨_, _, rfl⟩, rfl⟩))) rfl ?_ | refine lo (lop_pneq (E rfl) (E rfl) (.inr (.inr (.inl ⟨⟨_, _, _, rfl⟩, rfl⟩)))) rfl ?_ | refine lo (lop_pneq (E rfl) (E rfl) (.inr (.inr (.inr ⟨⟨_, _, _, _, rfl⟩, rfl⟩)))) rfl ?_
  apply le; (repeat (first | (apply KeepIs.take; rfl) | (apply KeepIs.skip; rfl) | exact KeepIs.nil))
  (repeat (first | refine cs ?_ | refine cb ?_ | refine ck ?_ | refine cx ?_ | refine cr ?_ | refine an ?_ | refine ae ?_ | refine ar ?_ | refine bn ?_ | refine bh ?_ | refine be rfl ?_ | refine br ?_ | refine ct rfl ?_ | refine cf rfl ?_))
  (apply aend; (repeat (first | exact ResL.nil | (apply ResL.tmp; rfl) | (apply ResL.cell; rfl; infer_instance; rfl; (repeat (first | exact sget_here | (apply sget_next; (first | assumption | (apply Nq.en; assumption) | omega | (simp only [Nq] at *; omega))))); rfl) | (apply ResL.cells; rfl; infer_instance; infer_instance; rfl; (repeat (first | exact sget_here | (apply sget_next; (first | assumption | (apply Nq.en; assumption) | omega | (simp only [Nq] at *; omega))))); exact Nat.le_of_ble_eq_true rfl))))
  · exact rfl
  · (first | exact no_mem | exact (fun _ h => h) | (apply StLe.mem; (repeat (first | exact StLe.nil | (apply StLe.cons; (repeat (first | exact List.mem_cons_self | apply List.mem_cons_of_mem)); first | rfl | focus (congr 1; done) | focus (simp; done) | (simp; rfl))))))
end
end Go.Proofs.Ytemehfolglcleaa
