/-
  The symbolic layer: what a walk does again and again, told once: each lemma's last hypothesis is shown by the steps that stand beside it, so that a walk names the lemma alone. No program is named here.
-/
import Derived.Test.YtkjfflabapeidaaSymS
import Derived.Test.YtkjfflabapeidaaTy
namespace Go.Proofs.Ytkjfflabapeidaa
open Go.RowKit Go.ChangeShapes Go.WideShapes Go.ChangeAt Go.Deep
set_option linter.unusedSimpArgs false
set_option linter.unusedVariables false

structure Hold (Q : Prop) : Prop where
  h : Q

/-! ### goals that close -/
theorem nqT {P : Prop} (h : P := by (first | assumption | (apply Nq.en; assumption) | omega | (simp only [Nq] at *; omega))) : P := h
theorem sgT {P : Prop} (h : P := by (repeat (first | exact sget_here | (apply sget_next; (first | assumption | (apply Nq.en; assumption) | omega | (simp only [Nq] at *; omega)))))) : P := h
theorem resT {P : Prop} (h : P := by (repeat (first | exact ResL.nil | (apply ResL.tmp; rfl) | (apply ResL.cell; rfl; infer_instance; rfl; (repeat (first | exact sget_here | (apply sget_next; (first | assumption | (apply Nq.en; assumption) | omega | (simp only [Nq] at *; omega))))); rfl) | (apply ResL.cells; rfl; infer_instance; infer_instance; rfl; (repeat (first | exact sget_here | (apply sget_next; (first | assumption | (apply Nq.en; assumption) | omega | (simp only [Nq] at *; omega))))); exact Nat.le_of_ble_eq_true rfl)))) : P := h
theorem stleT {P : Prop} (h : P := by (first | exact no_mem | exact (fun _ h => h) | (apply StLe.mem; (repeat (first | exact StLe.nil | (apply StLe.cons; (repeat (first | exact List.mem_cons_self | apply List.mem_cons_of_mem)); first | rfl | focus (congr 1; done) | focus (simp; done) | (simp; rfl))))))) : P := h
theorem argsleT {P : Prop} (h : P := by (repeat (first | exact ArgsLe.nil | (apply ArgsLe.cons; rfl; first | exact VLe.refl _ | exact VLe.when rfl | exact VLe.any | exact VLe.empty | exact VLe.of_eq (by simp))))) : P := h
theorem bortT {P : Prop} (h : P := by (
     first
      | exact Bor.refl _
      | exact Bor.le VLe.any
      | exact Bor.le VLe.empty
      | (apply bown; (repeat (
        first
         | exact List.mem_cons_self
         | apply List.mem_cons_of_mem)); (repeat (
        first
         | exact sget_here
         | (apply sget_next; (
          first
           | assumption
           | (apply Nq.en; assumption)
           | omega
           | (simp only [Nq] at *; omega))))); (
       first
        | focus (simp; done)
        | omega
        | focus (simp; omega)); (
       first
        | rfl
        | focus (simp; done)
        | focus (exact List.take_of_length_le (by
         first
          | (simp; done)
          | (simp; omega)))))
      | focus (apply bbox; (repeat (
        first
         | exact List.mem_cons_self
         | apply List.mem_cons_of_mem)); (repeat (
        first
         | exact sget_here
         | (apply sget_next; (
          first
           | assumption
           | (apply Nq.en; assumption)
           | omega
           | (simp only [Nq] at *; omega))))); rfl; rfl; (repeat (
        first
         | exact BorL.nil
         | (apply BorL.cons; (
          first
           | exact Bor.refl _
           | exact Bor.le VLe.any
           | exact Bor.le VLe.empty
           | (apply bown; (repeat (
             first
              | exact List.mem_cons_self
              | apply List.mem_cons_of_mem)); (repeat (
             first
              | exact sget_here
              | (apply sget_next; (
               first
                | assumption
                | (apply Nq.en; assumption)
                | omega
                | (simp only [Nq] at *; omega))))); (
            first
             | focus (simp; done)
             | omega); (
            first
             | rfl
             | focus (simp; done)
             | focus (exact List.take_of_length_le (by
              first
               | (simp; done)
               | (simp; omega)))))
           | focus (apply Bor.le; apply VLe.of_eq; simp; done))))); done)
      | focus (apply bagg; (repeat (
        first
         | exact BorL.nil
         | (apply BorL.cons; (
          first
           | exact Bor.refl _
           | exact Bor.le VLe.any
           | exact Bor.le VLe.empty
           | (apply bown; (repeat (
             first
              | exact List.mem_cons_self
              | apply List.mem_cons_of_mem)); (repeat (
             first
              | exact sget_here
              | (apply sget_next; (
               first
                | assumption
                | (apply Nq.en; assumption)
                | omega
                | (simp only [Nq] at *; omega))))); (
            first
             | focus (simp; done)
             | omega); (
            first
             | rfl
             | focus (simp; done)
             | focus (exact List.take_of_length_le (by
              first
               | (simp; done)
               | (simp; omega)))))
           | focus (apply Bor.le; apply VLe.of_eq; simp; done))))); done)
      | focus (apply Bor.le; apply VLe.of_eq; simp; done))) : P := h
theorem pargsT {P : Prop} (h : P := by (repeat (first | exact ArgsIf.nil | (apply ArgsIf.cons; (first | exact W rfl id | exact W rfl (fun _ => rfl) | exact E rfl); exact bortT)))) : P := h
theorem bargsT {P : Prop} (h : P := by (repeat (first | exact ArgsBor.nil | (apply ArgsBor.cons; rfl; exact bortT)))) : P := h
theorem argsT {P : Prop} (h : P := by (repeat (first | exact ArgsIf.nil | refine ArgsIf.cons (by first | exact Ev.when rfl (by first | exact id | simp) | exact Ev.here rfl) (by first | exact Bor.refl _ | exact Bor.le VLe.any | exact Bor.le VLe.empty | exact Bor.own (by simp) (by repeat (first | exact sget_here | refine sget_next (by (first | assumption | (apply Nq.en; assumption) | omega | (simp only [Nq] at *; omega))) ?_)) (by simp) | exact Bor.le (VLe.of_eq (by simp))) ?_))) : P := h
theorem nofT {P : Prop} (h : P := by (repeat (first | exact NoF.int | exact NoF.bool | exact NoF.nilp | exact NoF.nil | exact NoF.own | exact NoF.ptr | exact NoF.str | exact nofl_nil | apply NoF.tup | apply NoF.agg | apply nofl_cons))) : P := h
theorem hbtT {P : Prop} (h : P := by (repeat (first | exact HB.nil | apply HB.none | (apply HB.ok; focus (simp only [List.mem_cons, List.not_mem_nil, or_false, List.map_cons, List.map_nil, forall_eq_or_imp, forall_eq, true_or, or_true, true_and, and_true, not_false_eq_true, not_or]; (repeat' (first | apply And.intro | (first | assumption | (apply Nq.en; assumption) | omega | (simp only [Nq] at *; omega)))); done)) | (apply HB.waits; kernel_rfl)))) : P := h
theorem atT {P : Prop} (h : P := by (first | rfl | exact get_map (by assumption) | assumption)) : P := h
theorem putT_ {P : Prop} (h : P := by (repeat (first | exact Put.done | apply Put.put | apply Put.skip))) : P := h
theorem sputT {P : Prop} (h : P := by (repeat (first | (apply SPut.here; (repeat (first | exact Put.done | apply Put.put | apply Put.skip)); (repeat (first | exact Fresh.nil | (apply Fresh.cons; (first | assumption | (apply Nq.en; assumption) | omega | (simp only [Nq] at *; omega)))))) | (apply SPut.next; (first | assumption | (apply Nq.en; assumption) | omega | (simp only [Nq] at *; omega)))))) : P := h
theorem ssetT {P : Prop} (h : P := by (repeat (first | (apply SSet.here; (repeat (first | exact Fresh.nil | (apply Fresh.cons; (first | assumption | (apply Nq.en; assumption) | omega | (simp only [Nq] at *; omega)))))) | (apply SSet.next; (first | assumption | (apply Nq.en; assumption) | omega | (simp only [Nq] at *; omega)))))) : P := h
theorem sdelT {P : Prop} (h : P := by (repeat (first | (apply SDel.here; (repeat (first | exact Fresh.nil | (apply Fresh.cons; (first | assumption | (apply Nq.en; assumption) | omega | (simp only [Nq] at *; omega)))))) | (apply SDel.next; (first | assumption | (apply Nq.en; assumption) | omega | (simp only [Nq] at *; omega)))))) : P := h
theorem frsT {P : Prop} (h : P := by (repeat (first | exact Fresh.nil | (apply Fresh.cons; (first | assumption | (apply Nq.en; assumption) | omega | (simp only [Nq] at *; omega)))))) : P := h
theorem aevtT {P : Prop} (h : P := by (repeat (first | exact AEvs.nil | (apply AEvs.cons; rfl)))) : P := h
theorem zcT {P : Prop} (h : P := by (first | (simp only [Value.cells, AV.cells, List.map_cons, List.map_nil, ofConst, ofCell]; rfl) | rfl)) : P := h
theorem nflT {P : Prop} (h : P := by (first | (simp (disch := (first | (simp only [List.mem_cons, List.not_mem_nil, true_or, or_true, or_false]; done) | (focus (simp only [List.mem_cons, List.not_mem_nil, or_false, not_or]; (repeat' (first | apply And.intro | (first | assumption | (apply Nq.en; assumption) | omega | (simp only [Nq] at *; omega)))); done)) | omega)) only [↓put_σ, ↓mk_σ, AV.cells, sset, sdrop_none, sdrop_nil, sdrop_in, sdrop_out, List.nil_append, List.cons_append, List.append_nil, List.map_nil, List.map_cons, List.take_succ_cons, List.take_zero, List.drop_succ_cons, List.drop_zero, take_len', take_map_len, Nat.zero_add, Nat.add_zero, ofCell, ofConst]; rfl) | rfl)) : P := h
theorem sgoT {P : Prop} (h : P := by (refine sgo_st ?_ ?_ <;> (repeat (first | exact FrLe.nil | (apply FrLe.cons; rfl; first | exact VLe.refl _ | exact VLe.any | exact VLe.empty | exact VLe.of_eq (by simp) | exact VLe.of_eq (by congr 1; omega)) | exact StLe.nil | exact StLe.refl _ | (apply StLe.cons; (repeat (first | exact List.mem_cons_self | apply List.mem_cons_of_mem)); first | rfl | focus (congr 1; done) | focus (simp; done) | (simp; rfl)))))) : P := h
theorem keepT {P : Prop} (h : P := by (repeat (first | (apply KeepIs.take; rfl) | (apply KeepIs.skip; rfl) | exact KeepIs.nil))) : P := h
theorem fdelT {P : Prop} (h : P := by (repeat (first | exact FDel.nil | apply FDel.hit | apply FDel.miss rfl))) : P := h

/-! ### goals that turn into one other -/
theorem ctlT {P Q : Prop} (k : Q) (h : Hold Q → P := by intro k; (repeat (first | refine cs ?_ | refine cb ?_ | refine ck ?_ | refine cx ?_ | refine cr ?_ | refine an ?_ | refine ae ?_ | refine ar ?_ | refine bn ?_ | refine bh ?_ | refine be rfl ?_ | refine br ?_ | refine ct rfl ?_ | refine cf rfl ?_)); exact k.h) : P := h ⟨k⟩
theorem ctgT {P Q : Prop} (k : Q) (h : Hold Q → P := by intro k; (repeat (first | refine cs ?_ | refine cb ?_ | refine ck ?_ | refine cx ?_ | refine cr ?_ | refine an ?_ | refine ae ?_ | refine ar ?_ | refine bn ?_ | refine bh ?_ | refine be rfl ?_ | refine br ?_ | refine ct rfl ?_ | refine cf rfl ?_ | refine cg ?_ | refine ag ?_ | refine bg ?_ | refine jg ?_ | refine jn ?_ | refine jr ?_ | refine je ?_)); exact k.h) : P := h ⟨k⟩
theorem rgT {P Q : Prop} (k : Q) (h : Hold Q → P := by intro k; (first | refine sw_seq_region ?_ | refine sw_region ?_); exact k.h) : P := h ⟨k⟩
theorem leT {P Q : Prop} (k : Q) (h : Hold Q → P := by intro k; (apply le; exact keepT); exact k.h) : P := h ⟨k⟩
theorem deT {P Q : Prop} (k : Q) (h : Hold Q → P := by intro k; (apply de; exact keepT); exact k.h) : P := h ⟨k⟩
structure Tag (o : List (Nat × Bool)) : Prop where
  h : True
theorem sw_seq_tag {o : List (Nat × Bool)} (_ : Tag o) {P : Program} {n : Nat} {ks : List Nat} {s : ASt} {Q : Exit → ASt → Prop} {id : Nat} {ops : Array Oper} {y : Code} (hm : P.follows .mixedOrders = true) (hsel : Region.noSelect ops = true)
    (hchk : (chkB ops (Array.replicate ops.size false) o && o.length == ops.size) = true) (h : RD P n ops (Array.replicate ops.size false) o [] s (KeepK ks fun s' => SW P n ks y s' Q)) : SW P n ks (.seq (.region id ops true) y) s Q := sw_seq_drawn o hm hsel hchk h
theorem sw_region_tag {o : List (Nat × Bool)} (_ : Tag o) {P : Program} {n : Nat} {ks : List Nat} {s : ASt} {Q : Exit → ASt → Prop} {id : Nat} {ops : Array Oper} (hm : P.follows .mixedOrders = true) (hsel : Region.noSelect ops = true)
    (hchk : (chkB ops (Array.replicate ops.size false) o && o.length == ops.size) = true) (h : RD P n ops (Array.replicate ops.size false) o [] s (KeepK ks (Q .normal))) : SW P n ks (.region id ops true) s Q := sw_region_drawn o hm hsel hchk h
theorem rgD {P Q : Prop} (o : List (Nat × Bool)) (k : Q) (h : Hold Q → Tag o → P := by intro k t; (first | refine sw_seq_tag t mixed (by kernel_rfl) (by kernel_rfl) ?_ | refine sw_region_tag t mixed (by kernel_rfl) (by kernel_rfl) ?_); exact k.h) : P := h ⟨k⟩ ⟨trivial⟩
/-- a new name, told apart from all that are there -/
theorem freshT {S R T G : Nat → Prop} (k : ∀ r, R r → T r) (h : Hold (∀ r, R r → T r) → ∀ r, S r → G r := by intro k r h; refine k.h r ?_; (first | (simp only [fresh_cons, fresh_nil, and_true] at h; exact h) | exact trivial)) : ∀ r, S r → G r := h ⟨k⟩
theorem apnT {S R T G : Nat → Prop} (k : ∀ r, R r → T r) (h : Hold (∀ r, R r → T r) → ∀ r, S r → G r := by intro k r h; simp (disch := (first | (simp only [List.mem_cons, List.not_mem_nil, true_or, or_true, or_false]; done) | (focus (simp only [List.mem_cons, List.not_mem_nil, or_false, not_or]; (repeat' (first | apply And.intro | (first | assumption | (apply Nq.en; assumption) | omega | (simp only [Nq] at *; omega)))); done)) | omega)) only [fresh_cons, fresh_nil, and_true, sdrop_none, sdrop_nil, sdrop_in, sdrop_out] at h; have h2 := h; (repeat (rcases h2 with ⟨_, h2⟩)); apply Exists.intro; apply And.intro; exact ssetT; exact k.h r h) : ∀ r, S r → G r := h ⟨k⟩

/-! ### what is known, told otherwise -/
theorem cnewT {H R : Prop} (a : H) (h : H → R := by intro h; replace h := (h _ List.mem_cons_self).resolve_left (by simp only [List.mem_cons, List.not_mem_nil, or_false, exists_eq_or_imp, exists_eq_left, not_or, false_and, exists_false, not_false_eq_true]; (repeat' (first | apply And.intro | exact nqT)); done); simp only [fresh_cons, fresh_nil, and_true] at h; exact h) : R := h a
theorem cnew2T {H R : Prop} (a : H) (h : H → R := by intro h; replace h := (h _ (List.mem_cons_of_mem _ List.mem_cons_self)).resolve_left (by simp only [List.mem_cons, List.not_mem_nil, or_false, exists_eq_or_imp, exists_eq_left, not_or, false_and, exists_false, not_false_eq_true]; (repeat' (first | apply And.intro | exact nqT)); done); simp only [fresh_cons, fresh_nil, and_true] at h; exact h) : R := h a
theorem lnewT {H R : Prop} (a : H) (h : H → R := by intro h; simp only [List.mem_cons, List.mem_singleton, List.not_mem_nil, or_false, forall_eq_or_imp, forall_eq, fresh_cons, fresh_nil, and_true, and_assoc] at h; exact h) : R := h a
theorem rest1T {H R : Prop} (a : H) (h : H → R := by intro h; have h := fresh_rest (h _ List.mem_cons_self); simp (disch := (first | (simp only [List.mem_cons, List.not_mem_nil, true_or, or_true, or_false]; done) | (focus (simp only [List.mem_cons, List.not_mem_nil, or_false, not_or]; (repeat' (first | apply And.intro | (first | assumption | (apply Nq.en; assumption) | omega | (simp only [Nq] at *; omega)))); done)) | omega)) only [List.map_cons, List.map_nil, sdrop_none, sdrop_nil, sdrop_in, sdrop_out, fresh_cons, fresh_nil, and_true] at h; exact h) : R := h a
theorem rest2T {H R : Prop} (a : H) (h : H → R := by intro h; have h := fresh_rest (h _ (List.mem_cons_of_mem _ List.mem_cons_self)); simp (disch := (first | (simp only [List.mem_cons, List.not_mem_nil, true_or, or_true, or_false]; done) | (focus (simp only [List.mem_cons, List.not_mem_nil, or_false, not_or]; (repeat' (first | apply And.intro | (first | assumption | (apply Nq.en; assumption) | omega | (simp only [Nq] at *; omega)))); done)) | omega)) only [List.map_cons, List.map_nil, sdrop_none, sdrop_nil, sdrop_in, sdrop_out, fresh_cons, fresh_nil, and_true] at h; exact h) : R := h a
theorem rest3T {H R : Prop} (a : H) (h : H → R := by intro h; have h := fresh_rest (h _ (List.mem_cons_of_mem _ (List.mem_cons_of_mem _ List.mem_cons_self))); simp (disch := (first | (simp only [List.mem_cons, List.not_mem_nil, true_or, or_true, or_false]; done) | (focus (simp only [List.mem_cons, List.not_mem_nil, or_false, not_or]; (repeat' (first | apply And.intro | (first | assumption | (apply Nq.en; assumption) | omega | (simp only [Nq] at *; omega)))); done)) | omega)) only [List.map_cons, List.map_nil, sdrop_none, sdrop_nil, sdrop_in, sdrop_out, fresh_cons, fresh_nil, and_true] at h; exact h) : R := h a
theorem rest4T {H R : Prop} (a : H) (h : H → R := by intro h; have h := fresh_rest (h _ (List.mem_cons_of_mem _ (List.mem_cons_of_mem _ (List.mem_cons_of_mem _ List.mem_cons_self)))); simp (disch := (first | (simp only [List.mem_cons, List.not_mem_nil, true_or, or_true, or_false]; done) | (focus (simp only [List.mem_cons, List.not_mem_nil, or_false, not_or]; (repeat' (first | apply And.intro | (first | assumption | (apply Nq.en; assumption) | omega | (simp only [Nq] at *; omega)))); done)) | omega)) only [List.map_cons, List.map_nil, sdrop_none, sdrop_nil, sdrop_in, sdrop_out, fresh_cons, fresh_nil, and_true] at h; exact h) : R := h a
theorem blT {H R : Prop} (a : H) (h : H → R := by intro h; (try simp only [ifand, ifor] at h); simp only [Bool.and_eq_true, Bool.or_eq_true, Bool.and_eq_false_iff, Bool.or_eq_false_iff, decide_eq_true_eq, decide_eq_false_iff_not, Bool.not_eq_true', Bool.not_eq_false', bne_iff_ne, beq_iff_eq, ne_eq, Bool.not_eq_eq_eq_not, Bool.not_true, Bool.not_false, bne_eq_false_iff_eq, beq_eq_false_iff_ne] at h; exact h) : R := h a
end Go.Proofs.Ytkjfflabapeidaa
