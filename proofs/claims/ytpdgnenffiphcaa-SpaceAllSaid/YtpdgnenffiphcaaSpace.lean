/-
  Package space: what each function does.
-/
import Derived.Test.YtpdgnenffiphcaaLibB
namespace Go.Proofs.Ytpdgnenffiphcaa
open Go.RowKit Go.ChangeShapes Go.WideShapes Go.ChangeAt Go.Deep
set_option linter.unusedSimpArgs false
set_option linter.unusedVariables false
attribute [local irreducible] SW RS RD AThen ABlock

def encI (n : Int) : List AV := [.int .i64 n]
def encV (v : Int × Int) : List AV := [.int .i64 v.1, .int .i64 v.2]
def encG (g : Bool × Int × Int) : List AV := [.bool g.1, .int .i64 g.2.1, .int .i64 g.2.2]
theorem take_snoc {α β : Type} {f : α → β} {l : List α} {k : Nat} {x : α} (h : l[k]? = some x) : (l.take (k + 1)).map f = (l.take k).map f ++ [f x] := by
  rw [List.take_add_one, h]; simp
theorem rep_noF {n : Nat} {m : Int} : ∀ e ∈ List.replicate n [AV.int .i64 m], ∀ x ∈ e, NoF x := by
  intro e he x hx
  obtain rfl := List.eq_of_mem_replicate he
  obtain rfl := List.mem_singleton.1 hx
  exact .int

set_option maxRecDepth 100000 in
set_option maxHeartbeats 1000000 in
theorem space_new (has : Bool) (mn : Nat) (hmn : mn ≤ 1000) (mx : Int) (gs : List (Bool × Int × Int)) (hgs : gs.length ≤ 1000) : SCall Try.prog 14
    [.agg [.ro 0 [] .nil, .ro 0 [] .nil, .ro 0 [] .nil, .bool has, .int .i64 mn, .int .i64 mx, .bool false, .int .i64 0, .int .i64 0, .ro 3 (gs.map encG) .any, .ro 0 [] .nil, .ro 0 [] .nil, .ro 0 [] .nil, .ro 0 [] .nil]] []
    (fun x σ => ∃ s t g, (Nq t s ∧ Nq g s ∧ Nq g t) ∧ x = .ptr s 0 ∧ σ = [(s, .box 78 [.own t 0 (if has then mn else 0), .own g 0 gs.length]), (t, .arr 3 1 (List.replicate (if has then mn else 0) [.int .i64 (-1)])), (g, .arr 39 2 (gs.map fun q => encV q.2))]) := by
  refine scall_of (n := 40) (ks := [0, 1, 2, 3, 5, 10, 21, 22, 23, 24]) Try.func14 rfl rfl (Nat.le_of_ble_eq_true rfl) ?_
  refine cs ?_
  first | refine sw_seq_region ?_ | refine sw_region ?_
  apply bx; rfl; rfl; (first | (simp only [Value.cells, AV.cells, List.map_cons, List.map_nil, ofConst, ofCell]; rfl) | rfl); rfl; intro r1 h1; simp only [fresh_cons, fresh_nil, and_true] at h1; (repeat (rcases h1 with ⟨_, h1⟩))
  refine lo (lop_assign (E rfl)) rfl ?_
  apply le; (repeat (first | (apply KeepIs.take; rfl) | (apply KeepIs.skip; rfl) | exact KeepIs.nil))
  refine an ?_
  first | refine sw_seq_region ?_ | refine sw_region ?_
  refine lo (lop_str (by repeat (first | exact PEvs.nil | (apply PEvs.cons; first | exact W rfl id | exact E rfl))) (by (first | (simp only [Value.cells, AV.cells, List.map_cons, List.map_nil, ofConst, ofCell]; rfl) | rfl)) (by repeat (first | exact Fill.nil | (apply Fill.cons; rfl; rfl; rfl; (repeat (first | exact Put.done | apply Put.put | apply Put.skip)))))) rfl ?_
  apply bx; rfl; rfl; (first | (simp only [Value.cells, AV.cells, List.map_cons, List.map_nil, ofConst, ofCell]; rfl) | rfl); rfl; intro r7 h7; simp only [fresh_cons, fresh_nil, and_true] at h7; (repeat (rcases h7 with ⟨_, h7⟩))
  refine lo (lop_assign (E rfl)) rfl ?_
  apply le; (repeat (first | (apply KeepIs.take; rfl) | (apply KeepIs.skip; rfl) | exact KeepIs.nil))
  refine sj (β := Nat) (fun t => ⟨[(1, .ptr r1 0), (3, .ptr r7 0)], [(t, .arr 3 1 (List.replicate (if has then mn else 0) [.int .i64 (-1)])), (r7, .box 78 [.own t 0 (if has then mn else 0), .ro 0 [] .nil]), (r1, .box 36 [.ro 0 [] .nil, .ro 0 [] .nil, .ro 0 [] .nil, .bool has, .int .i64 mn, .int .i64 mx, .bool false, .int .i64 0, .int .i64 0, .ro 3 (gs.map encG) .any, .ro 0 [] .nil, .ro 0 [] .nil, .ro 0 [] .nil, .ro 0 [] .nil])]⟩) (fun t => Nq t r7 ∧ Nq t r1) ?_ ?_
  · cases has
    · (repeat (first | refine cs ?_ | refine cb ?_ | refine ck ?_ | refine cx ?_ | refine cr ?_ | refine an ?_ | refine ae ?_ | refine ar ?_ | refine bn ?_ | refine bh ?_ | refine be rfl ?_ | refine br ?_ | refine ct rfl ?_ | refine cf rfl ?_))
      first | refine sw_seq_region ?_ | refine sw_region ?_
      refine lo (lop_field_ptr (E rfl) rfl (by decide)) rfl ?_
      refine lo (lop_field_ptr (E rfl) rfl (by decide)) rfl ?_
      refine lo (lop_load_ptr (E rfl) rfl (by repeat (first | exact sget_here | refine sget_next (by (first | assumption | (apply Nq.en; assumption) | omega | (simp only [Nq] at *; omega))) ?_)) (fun _ => rfl)) rfl ?_
      apply le; (repeat (first | (apply KeepIs.take; rfl) | (apply KeepIs.skip; rfl) | exact KeepIs.nil))
      refine an ?_
      refine sw_virt_box (ks := [0, 1, 2, 3, 5, 10, 21, 22, 23, 24]) r7 0 3 1 (by decide) (by repeat (first | exact sget_here | refine sget_next (by (first | assumption | (apply Nq.en; assumption) | omega | (simp only [Nq] at *; omega))) ?_)) rfl (by decide) fun q hq => ?_
      simp only [fresh_cons, fresh_nil, and_true] at hq; (repeat (rcases hq with ⟨_, hq⟩))
      apply Exists.intro; apply And.intro; (repeat (first | (apply SSet.here; (repeat (first | exact Fresh.nil | (apply Fresh.cons; (first | assumption | (apply Nq.en; assumption) | omega | (simp only [Nq] at *; omega)))))) | (apply SSet.next; (first | assumption | (apply Nq.en; assumption) | omega | (simp only [Nq] at *; omega)))))
      (repeat (first | refine cs ?_ | refine cb ?_ | refine ck ?_ | refine cx ?_ | refine cr ?_ | refine an ?_ | refine ae ?_ | refine ar ?_ | refine bn ?_ | refine bh ?_ | refine be rfl ?_ | refine br ?_ | refine ct rfl ?_ | refine cf rfl ?_))
      refine ⟨q, ⟨by (first | assumption | (apply Nq.en; assumption) | omega | (simp only [Nq] at *; omega)), by (first | assumption | (apply Nq.en; assumption) | omega | (simp only [Nq] at *; omega))⟩, ?_⟩
      (refine sgo_st ?_ ?_ <;> (repeat (first | exact FrLe.nil | (apply FrLe.cons; rfl; first | exact VLe.refl _ | exact VLe.any | exact VLe.empty | exact VLe.of_eq (by simp) | exact VLe.of_eq (by congr 1; omega)) | exact StLe.nil | (apply StLe.cons; (repeat (first | exact List.mem_cons_self | apply List.mem_cons_of_mem)); first | rfl | focus (congr 1; done) | focus (simp; done) | (simp; rfl)))))
    · (repeat (first | refine cs ?_ | refine cb ?_ | refine ck ?_ | refine cx ?_ | refine cr ?_ | refine an ?_ | refine ae ?_ | refine ar ?_ | refine bn ?_ | refine bh ?_ | refine be rfl ?_ | refine br ?_ | refine ct rfl ?_ | refine cf rfl ?_))
      first | refine sw_seq_region ?_ | refine sw_region ?_
      refine lo (lop_field_ptr (E rfl) rfl (by decide)) rfl ?_
      refine lo (lop_field_ptr (E rfl) rfl (by decide)) rfl ?_
      refine lo (lop_load_ptr (E rfl) rfl (by repeat (first | exact sget_here | refine sget_next (by (first | assumption | (apply Nq.en; assumption) | omega | (simp only [Nq] at *; omega))) ?_)) (fun _ => rfl)) rfl ?_
      apply le; (repeat (first | (apply KeepIs.take; rfl) | (apply KeepIs.skip; rfl) | exact KeepIs.nil))
      (repeat (first | refine cs ?_ | refine cb ?_ | refine ck ?_ | refine cx ?_ | refine cr ?_ | refine an ?_ | refine ae ?_ | refine ar ?_ | refine bn ?_ | refine bh ?_ | refine be rfl ?_ | refine br ?_ | refine ct rfl ?_ | refine cf rfl ?_))
      first | refine sw_seq_region ?_ | refine sw_region ?_
      refine lo (lop_move (E rfl)) rfl ?_
      apply bs; (repeat (first | exact AEvs.nil | (apply AEvs.cons; rfl))); rfl; rfl; rfl; rfl; (first | (simp only [Value.cells, AV.cells, List.map_cons, List.map_nil, ofConst, ofCell]; rfl) | rfl); rfl; intro r12 h12; simp only [fresh_cons, fresh_nil, and_true] at h12; (repeat (rcases h12 with ⟨_, h12⟩))
      refine lo (lop_field_ptr (E rfl) rfl (by decide)) rfl ?_
      refine lo (lop_field_ptr (E rfl) rfl (by decide)) rfl ?_
      refine lo (lop_load_ptr (E rfl) rfl (by repeat (first | exact sget_here | refine sget_next (by (first | assumption | (apply Nq.en; assumption) | omega | (simp only [Nq] at *; omega))) ?_)) (fun _ => rfl)) rfl ?_
      refine lo (lop_max (E rfl) (E rfl)) rfl ?_
      refine cl [r12] Try.call32 (lib_repeat_int (v := .int .i64 (-1)) rfl mn (by omega)) rfl ?_ ?_ ?_
      · have e1 : (if (0 : Int) < (mn : Int) then (mn : Int) else 0) = mn := by split <;> omega
        rw [e1]
        apply ArgsBor.cons; rfl
        · apply bown
          · exact List.mem_cons_self
          · (repeat (first | exact sget_here | (apply sget_next; (first | assumption | (apply Nq.en; assumption) | omega | (simp only [Nq] at *; omega)))))
          · simp
          · rfl
        (repeat (first | exact ArgsBor.nil | (apply ArgsBor.cons; rfl; (first | exact Bor.refl _ | exact Bor.le VLe.any | exact Bor.le VLe.empty | (apply bown; (repeat (first | exact List.mem_cons_self | apply List.mem_cons_of_mem)); (repeat (first | exact sget_here | (apply sget_next; (first | assumption | (apply Nq.en; assumption) | omega | (simp only [Nq] at *; omega))))); (first | focus (simp; done) | omega | focus (simp; omega)); (first | rfl | focus (simp; done) | focus (exact List.take_of_length_le (by first | (simp; done) | (simp; omega))))) | focus (apply bagg; (repeat (first | exact BorL.nil | (apply BorL.cons; (first | exact Bor.refl _ | exact Bor.le VLe.any | exact Bor.le VLe.empty | (apply bown; (repeat (first | exact List.mem_cons_self | apply List.mem_cons_of_mem)); (repeat (first | exact sget_here | (apply sget_next; (first | assumption | (apply Nq.en; assumption) | omega | (simp only [Nq] at *; omega))))); (first | focus (simp; done) | omega); (first | rfl | focus (simp; done) | focus (exact List.take_of_length_le (by first | (simp; done) | (simp; omega))))) | focus (apply Bor.le; apply VLe.of_eq; simp; done))))); done) | focus (apply Bor.le; apply VLe.of_eq; simp; done)))))
      · rintro x σ' ⟨r, rfl, rfl⟩
        refine ⟨NoF.own, ?_⟩
        simp only [List.mem_singleton, forall_eq]
        exact rep_noF
      rintro x σ' ⟨r17, rfl, rfl⟩ h17
      simp only [List.mem_cons, List.mem_singleton, List.not_mem_nil, or_false, forall_eq_or_imp, forall_eq, fresh_cons, fresh_nil, and_true, and_assoc] at h17; (repeat (rcases h17 with ⟨_, h17⟩))
      simp only [List.cons_append, List.nil_append]
      refine lo (lop_nilCheck (E rfl) (.inl ⟨_, _, rfl⟩)) rfl ?_
      refine lo (lop_field_ptr (E rfl) rfl (by decide)) rfl ?_
      apply stp; rfl; rfl; rfl; rfl; (repeat (first | (apply SPut.here; (repeat (first | exact Put.done | apply Put.put | apply Put.skip)); (repeat (first | exact Fresh.nil | (apply Fresh.cons; (first | assumption | (apply Nq.en; assumption) | omega | (simp only [Nq] at *; omega)))))) | (apply SPut.next; (first | assumption | (apply Nq.en; assumption) | omega | (simp only [Nq] at *; omega)))))
      apply le; (repeat (first | (apply KeepIs.take; rfl) | (apply KeepIs.skip; rfl) | exact KeepIs.nil))
      (repeat (first | refine cs ?_ | refine cb ?_ | refine ck ?_ | refine cx ?_ | refine cr ?_ | refine an ?_ | refine ae ?_ | refine ar ?_ | refine bn ?_ | refine bh ?_ | refine be rfl ?_ | refine br ?_ | refine ct rfl ?_ | refine cf rfl ?_))
      refine ⟨r17, ⟨by (first | assumption | (apply Nq.en; assumption) | omega | (simp only [Nq] at *; omega)), by (first | assumption | (apply Nq.en; assumption) | omega | (simp only [Nq] at *; omega))⟩, ?_⟩
      (refine sgo_st ?_ ?_ <;> (repeat (first | exact FrLe.nil | (apply FrLe.cons; rfl; first | exact VLe.refl _ | exact VLe.any | exact VLe.empty | exact VLe.of_eq (by simp) | exact VLe.of_eq (by congr 1; omega)) | exact StLe.nil | (apply StLe.cons; (repeat (first | exact List.mem_cons_self | apply List.mem_cons_of_mem)); first | rfl | focus (congr 1; done) | focus (simp; done) | (simp; rfl)))))
  rintro t ⟨ht1, ht2⟩
  generalize (if has = true then mn else 0) = nn
  refine sw_virt_box (ks := [0, 1, 2, 3, 5, 10, 21, 22, 23, 24]) r7 1 39 2 (by decide) (by repeat (first | exact sget_here | refine sget_next (by (first | assumption | (apply Nq.en; assumption) | omega | (simp only [Nq] at *; omega))) ?_)) rfl (by decide) fun q hq => ?_
  simp only [fresh_cons, fresh_nil, and_true] at hq; (repeat (rcases hq with ⟨_, hq⟩))
  apply Exists.intro; apply And.intro; (repeat (first | (apply SSet.here; (repeat (first | exact Fresh.nil | (apply Fresh.cons; (first | assumption | (apply Nq.en; assumption) | omega | (simp only [Nq] at *; omega)))))) | (apply SSet.next; (first | assumption | (apply Nq.en; assumption) | omega | (simp only [Nq] at *; omega)))))
  (repeat (first | refine cs ?_ | refine cb ?_ | refine ck ?_ | refine cx ?_ | refine cr ?_ | refine an ?_ | refine ae ?_ | refine ar ?_ | refine bn ?_ | refine bh ?_ | refine be rfl ?_ | refine br ?_ | refine ct rfl ?_ | refine cf rfl ?_))
  first | refine sw_seq_region ?_ | refine sw_region ?_
  refine lo (lop_field_ptr (E rfl) rfl (by decide)) rfl ?_
  refine lo (lop_load_ptr (E rfl) rfl (by repeat (first | exact sget_here | refine sget_next (by (first | assumption | (apply Nq.en; assumption) | omega | (simp only [Nq] at *; omega))) ?_)) (fun _ => rfl)) rfl ?_
  first | refine lo (lop_len_map (E rfl)) rfl ?_ | refine lo (lop_len_ro (E rfl)) rfl ?_ | refine lo (lop_len_own (E rfl)) rfl ?_
  refine lo (lop_move (E rfl)) rfl ?_
  apply le; (repeat (first | (apply KeepIs.take; rfl) | (apply KeepIs.skip; rfl) | exact KeepIs.nil))
  (repeat (first | refine cs ?_ | refine cb ?_ | refine ck ?_ | refine cx ?_ | refine cr ?_ | refine an ?_ | refine ae ?_ | refine ar ?_ | refine bn ?_ | refine bh ?_ | refine be rfl ?_ | refine br ?_ | refine ct rfl ?_ | refine cf rfl ?_))
  refine lp (β := Nat × Nat) (fun b => ⟨[(3, .ptr r7 0), (21, .ro 3 (gs.map encG) .any), (22, .int .i64 gs.length), (23, .int .i64 b.2)], [(b.1, .arr 39 2 ((gs.take b.2).map fun q => encV q.2)), (t, .arr 3 1 (List.replicate nn [.int .i64 (-1)])), (r7, .box 78 [.own t 0 nn, .own b.1 0 b.2])]⟩) (fun b => (Nq t b.1 ∧ Nq r7 b.1) ∧ b.2 ≤ gs.length) (fun b => gs.length - b.2) (q, 0) ?_ ⟨⟨by show Nq t q; (first | assumption | (apply Nq.en; assumption) | omega | (simp only [Nq] at *; omega)), by show Nq r7 q; (first | assumption | (apply Nq.en; assumption) | omega | (simp only [Nq] at *; omega))⟩, Nat.zero_le _⟩ ?_
  · (refine sgo_st ?_ ?_ <;> (repeat (first | exact FrLe.nil | (apply FrLe.cons; rfl; first | exact VLe.refl _ | exact VLe.any | exact VLe.empty | exact VLe.of_eq (by simp) | exact VLe.of_eq (by congr 1; omega)) | exact StLe.nil | (apply StLe.cons; (repeat (first | exact List.mem_cons_self | apply List.mem_cons_of_mem)); first | rfl | focus (congr 1; done) | focus (simp; done) | (simp; rfl)))))
  rintro ⟨g, k⟩ ⟨⟨hg1, hg2⟩, hk⟩
  simp only at hg1 hg2 hk ⊢
  (repeat (first | refine cs ?_ | refine cb ?_ | refine ck ?_ | refine cx ?_ | refine cr ?_ | refine an ?_ | refine ae ?_ | refine ar ?_ | refine bn ?_ | refine bh ?_ | refine be rfl ?_ | refine br ?_ | refine ct rfl ?_ | refine cf rfl ?_))
  first | refine sw_seq_region ?_ | refine sw_region ?_
  refine lo (lop_lss (E rfl) (E rfl)) rfl ?_
  apply le; (repeat (first | (apply KeepIs.take; rfl) | (apply KeepIs.skip; rfl) | exact KeepIs.nil))
  (repeat (first | refine cs ?_ | refine cb ?_ | refine ck ?_ | refine cx ?_ | refine cr ?_ | refine an ?_ | refine ae ?_ | refine ar ?_ | refine bn ?_ | refine bh ?_ | refine be rfl ?_ | refine br ?_ | refine ct rfl ?_ | refine cf rfl ?_))
  refine sw_cond rfl (fun h1 => ?_) (fun h1 => ?_)
  · have hlt : k < gs.length := by simp at h1; omega
    obtain ⟨x, hx⟩ : ∃ x, gs[k]? = some x := ⟨_, List.getElem?_eq_getElem hlt⟩
    (repeat (first | refine cs ?_ | refine cb ?_ | refine ck ?_ | refine cx ?_ | refine cr ?_ | refine an ?_ | refine ae ?_ | refine ar ?_ | refine bn ?_ | refine bh ?_ | refine be rfl ?_ | refine br ?_ | refine ct rfl ?_ | refine cf rfl ?_))
    first | refine sw_seq_region ?_ | refine sw_region ?_
    first | refine lo (lop_index_ro (E rfl) (E rfl) (fun hc => by (simp only [List.length_map]; omega))) rfl ?_ | refine lo (lop_index_own0 (E rfl) (by repeat (first | exact sget_here | refine sget_next (by (first | assumption | (apply Nq.en; assumption) | omega | (simp only [Nq] at *; omega))) ?_)) (E rfl) (fun hc => by omega)) rfl ?_ | refine lo (lop_index_own (E rfl) (by repeat (first | exact sget_here | refine sget_next (by (first | assumption | (apply Nq.en; assumption) | omega | (simp only [Nq] at *; omega))) ?_)) (E rfl) (fun hc => by omega)) rfl ?_
    first | refine lo (lop_load_el_agg (E rfl) rfl (fun hc => by first | rfl | exact get_map (by assumption) | assumption | exact get_map (at_bang (by omega))) (fun _ => Nat.le_of_ble_eq_true rfl)) rfl ?_ | refine lo (lop_load_ow_agg (E rfl) rfl (by repeat (first | exact sget_here | refine sget_next (by (first | assumption | (apply Nq.en; assumption) | omega | (simp only [Nq] at *; omega))) ?_)) (fun hc => by first | rfl | exact get_map (by assumption) | assumption | exact get_map (at_bang (by omega))) (fun _ => Nat.le_of_ble_eq_true rfl)) rfl ?_
    apply al; rfl; (first | (simp only [Value.cells, AV.cells, List.map_cons, List.map_nil, ofConst, ofCell]; rfl) | rfl); intro r5 h5; simp only [fresh_cons, fresh_nil, and_true] at h5; (repeat (rcases h5 with ⟨_, h5⟩))
    apply stp; rfl; rfl; rfl; rfl; (repeat (first | (apply SPut.here; (repeat (first | exact Put.done | apply Put.put | apply Put.skip)); (repeat (first | exact Fresh.nil | (apply Fresh.cons; (first | assumption | (apply Nq.en; assumption) | omega | (simp only [Nq] at *; omega)))))) | (apply SPut.next; (first | assumption | (apply Nq.en; assumption) | omega | (simp only [Nq] at *; omega)))))
    apply le; (repeat (first | (apply KeepIs.take; rfl) | (apply KeepIs.skip; rfl) | exact KeepIs.nil))
    (repeat (first | refine cs ?_ | refine cb ?_ | refine ck ?_ | refine cx ?_ | refine cr ?_ | refine an ?_ | refine ae ?_ | refine ar ?_ | refine bn ?_ | refine bh ?_ | refine be rfl ?_ | refine br ?_ | refine ct rfl ?_ | refine cf rfl ?_))
    first | refine sw_seq_drawn [(0, true), (1, true), (2, true), (3, true), (4, true), (5, true), (6, true), (7, false), (8, false), (9, true), (10, true), (11, false)] mixed (by kernel_rfl) (by kernel_rfl) ?_ | refine sw_region_drawn [(0, true), (1, true), (2, true), (3, true), (4, true), (5, true), (6, true), (7, false), (8, false), (9, true), (10, true), (11, false)] mixed (by kernel_rfl) (by kernel_rfl) ?_
    refine dlo rfl (lop_move (E rfl)) rfl ?_
    refine dlo rfl (lop_move (E rfl)) rfl ?_
    refine dlo rfl (lop_nilCheck (E rfl) (.inl ⟨_, _, rfl⟩)) rfl ?_
    refine dlo rfl (lop_field_ptr (E rfl) rfl (by decide)) rfl ?_
    refine dlo rfl (lop_load_ptr (E rfl) rfl (by repeat (first | exact sget_here | refine sget_next (by (first | assumption | (apply Nq.en; assumption) | omega | (simp only [Nq] at *; omega))) ?_)) (fun _ => rfl)) rfl ?_
    refine dlo rfl (lop_field_ptr (E rfl) rfl (by decide)) rfl ?_
    refine dlo rfl (lop_load_ptr_agg (E rfl) rfl (by repeat (first | exact sget_here | refine sget_next (by (first | assumption | (apply Nq.en; assumption) | omega | (simp only [Nq] at *; omega))) ?_)) (fun _ => Nat.le_of_ble_eq_true rfl)) rfl ?_
    apply dbs; rfl; infer_instance; infer_instance; (repeat (first | exact AEvs.nil | (apply AEvs.cons; rfl))); rfl; rfl; rfl; rfl; (first | (simp only [Value.cells, AV.cells, List.map_cons, List.map_nil, ofConst, ofCell]; rfl) | rfl); rfl; intro r34 h34; simp only [fresh_cons, fresh_nil, and_true] at h34; (repeat (rcases h34 with ⟨_, h34⟩))
    apply dap (es' := (gs.take (k + 1)).map fun q => encV q.2) (len' := k + 1); rfl; infer_instance; infer_instance; rfl; rfl; (repeat (first | exact sget_here | (apply sget_next; (first | assumption | (apply Nq.en; assumption) | omega | (simp only [Nq] at *; omega)))))
    · simp; omega
    · exact .inr (.inr ⟨_, _, _, _, _, rfl, (by repeat (first | exact sget_here | refine sget_next (by (first | assumption | (apply Nq.en; assumption) | omega | (simp only [Nq] at *; omega))) ?_)), by simp, rfl⟩)
    · rw [take_snoc hx]; simp [encV]
    · simp
    · simp [maxLen]; omega
    · omega
    · rfl
    · (repeat (first | exact HB.nil | apply HB.none | (apply HB.ok; focus (simp only [List.mem_cons, List.not_mem_nil, or_false, List.map_cons, List.map_nil, forall_eq_or_imp, forall_eq, true_or, or_true, true_and, not_or]; (repeat' (first | apply And.intro | (first | assumption | (apply Nq.en; assumption) | omega | (simp only [Nq] at *; omega)))); done)) | (apply HB.waits; kernel_rfl)))
    intro r35 h35; simp (disch := (first | (simp only [List.mem_cons, List.not_mem_nil, true_or, or_true, or_false]; done) | (focus (simp only [List.mem_cons, List.not_mem_nil, or_false, not_or]; (repeat' (first | apply And.intro | (first | assumption | (apply Nq.en; assumption) | omega | (simp only [Nq] at *; omega)))); done)) | omega)) only [fresh_cons, fresh_nil, and_true, sdrop_none, sdrop_nil, sdrop_in, sdrop_out] at h35; (repeat (rcases h35 with ⟨_, h35⟩)); apply Exists.intro; apply And.intro; (repeat (first | (apply SSet.here; (repeat (first | exact Fresh.nil | (apply Fresh.cons; (first | assumption | (apply Nq.en; assumption) | omega | (simp only [Nq] at *; omega)))))) | (apply SSet.next; (first | assumption | (apply Nq.en; assumption) | omega | (simp only [Nq] at *; omega)))))
    refine dlo rfl (lop_nilCheck (E rfl) (.inl ⟨_, _, rfl⟩)) rfl ?_
    refine dlo rfl (lop_field_ptr (E rfl) rfl (by decide)) rfl ?_
    apply dstp; rfl; infer_instance; rfl; rfl; rfl; rfl; (repeat (first | (apply SPut.here; (repeat (first | exact Put.done | apply Put.put | apply Put.skip)); (repeat (first | exact Fresh.nil | (apply Fresh.cons; (first | assumption | (apply Nq.en; assumption) | omega | (simp only [Nq] at *; omega)))))) | (apply SPut.next; (first | assumption | (apply Nq.en; assumption) | omega | (simp only [Nq] at *; omega))))); (repeat (first | exact HB.nil | apply HB.none | (apply HB.ok; focus (simp only [List.mem_cons, List.not_mem_nil, or_false, List.map_cons, List.map_nil, forall_eq_or_imp, forall_eq, true_or, or_true, true_and, not_or]; (repeat' (first | apply And.intro | (first | assumption | (apply Nq.en; assumption) | omega | (simp only [Nq] at *; omega)))); done)) | (apply HB.waits; kernel_rfl)))
    apply de; (repeat (first | (apply KeepIs.take; rfl) | (apply KeepIs.skip; rfl) | exact KeepIs.nil))
    (repeat (first | refine cs ?_ | refine cb ?_ | refine ck ?_ | refine cx ?_ | refine cr ?_ | refine an ?_ | refine ae ?_ | refine ar ?_ | refine bn ?_ | refine bh ?_ | refine be rfl ?_ | refine br ?_ | refine ct rfl ?_ | refine cf rfl ?_))
    first | refine sw_seq_region ?_ | refine sw_region ?_
    first | refine lo (lop_add64 (E rfl) (E rfl) (by omega) (by omega)) rfl ?_ | refine lo (lop_add (E rfl) (E rfl)) rfl ?_
    refine lo (lop_move (E rfl)) rfl ?_
    apply le; (repeat (first | (apply KeepIs.take; rfl) | (apply KeepIs.skip; rfl) | exact KeepIs.nil))
    (repeat (first | refine cs ?_ | refine cb ?_ | refine ck ?_ | refine cx ?_ | refine cr ?_ | refine an ?_ | refine ae ?_ | refine ar ?_ | refine bn ?_ | refine bh ?_ | refine be rfl ?_ | refine br ?_ | refine ct rfl ?_ | refine cf rfl ?_))
    refine ⟨(r35, k + 1), ⟨⟨?_, ?_⟩, hlt⟩, by show gs.length - (k + 1) < gs.length - k; omega, ?_⟩
    · show Nq t r35; (first | assumption | (apply Nq.en; assumption) | omega | (simp only [Nq] at *; omega))
    · show Nq r7 r35; (first | assumption | (apply Nq.en; assumption) | omega | (simp only [Nq] at *; omega))
    (refine sgo_st ?_ ?_ <;> (repeat (first | exact FrLe.nil | (apply FrLe.cons; rfl; first | exact VLe.refl _ | exact VLe.any | exact VLe.empty | exact VLe.of_eq (by simp) | exact VLe.of_eq (by congr 1; omega)) | exact StLe.nil | (apply StLe.cons; (repeat (first | exact List.mem_cons_self | apply List.mem_cons_of_mem)); first | rfl | focus (congr 1; done) | focus (simp; done) | (simp; rfl)))))
  · obtain rfl : k = gs.length := by simp at h1; omega
    (repeat (first | refine cs ?_ | refine cb ?_ | refine ck ?_ | refine cx ?_ | refine cr ?_ | refine an ?_ | refine ae ?_ | refine ar ?_ | refine bn ?_ | refine bh ?_ | refine be rfl ?_ | refine br ?_ | refine ct rfl ?_ | refine cf rfl ?_))
    first | refine sw_seq_region ?_ | refine sw_region ?_
    refine lo (lop_move (E rfl)) rfl ?_
    refine lo (lop_assign (E rfl)) rfl ?_
    apply le; (repeat (first | (apply KeepIs.take; rfl) | (apply KeepIs.skip; rfl) | exact KeepIs.nil))
    (repeat (first | refine cs ?_ | refine cb ?_ | refine ck ?_ | refine cx ?_ | refine cr ?_ | refine an ?_ | refine ae ?_ | refine ar ?_ | refine bn ?_ | refine bh ?_ | refine be rfl ?_ | refine br ?_ | refine ct rfl ?_ | refine cf rfl ?_))
    (apply aend; (repeat (first | exact ResL.nil | (apply ResL.tmp; rfl) | (apply ResL.cell; rfl; infer_instance; rfl; (repeat (first | exact sget_here | (apply sget_next; (first | assumption | (apply Nq.en; assumption) | omega | (simp only [Nq] at *; omega))))); rfl) | (apply ResL.cells; rfl; infer_instance; infer_instance; rfl; (repeat (first | exact sget_here | (apply sget_next; (first | assumption | (apply Nq.en; assumption) | omega | (simp only [Nq] at *; omega))))); exact Nat.le_of_ble_eq_true rfl))))
    · exact ⟨r7, t, g, ⟨by (first | assumption | (apply Nq.en; assumption) | omega | (simp only [Nq] at *; omega)), by (first | assumption | (apply Nq.en; assumption) | omega | (simp only [Nq] at *; omega)), by (first | assumption | (apply Nq.en; assumption) | omega | (simp only [Nq] at *; omega))⟩, rfl, rfl⟩
    · rw [List.take_length]
      (first | exact no_mem | (apply StLe.mem; (repeat (first | exact StLe.nil | (apply StLe.cons; (repeat (first | exact List.mem_cons_self | apply List.mem_cons_of_mem)); first | rfl | focus (congr 1; done) | focus (simp; done) | (simp; rfl))))))
end Go.Proofs.Ytpdgnenffiphcaa
