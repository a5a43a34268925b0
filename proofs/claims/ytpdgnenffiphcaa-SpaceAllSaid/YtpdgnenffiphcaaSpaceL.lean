/-
  Plain laws of tables.
-/
import Derived.Test.YtpdgnenffiphcaaSpaceC
namespace Go.Proofs.Ytpdgnenffiphcaa
open Go.RowKit Go.ChangeShapes Go.WideShapes Go.ChangeAt Go.Deep
set_option linter.unusedSimpArgs false
set_option linter.unusedVariables false

def fillL (N k : Nat) (x y : Int) : List Int := List.replicate k x ++ List.replicate (N - k) y
theorem fillL_step {N k : Nat} {x y : Int} (h : k < N) : (fillL N k x y).set k x = fillL N (k + 1) x y := by
  unfold fillL
  rw [List.set_append_right _ _ (by simp), List.length_replicate, Nat.sub_self, show N - k = (N - (k + 1)) + 1 by omega, List.replicate_succ, List.set_cons_zero, List.replicate_succ' (n := k)]
  simp
theorem fillL_len {N k : Nat} {x y : Int} (h : k ≤ N) : (fillL N k x y).length = N := by simp [fillL]; omega
theorem fillL_at {N k : Nat} {x y : Int} (h : k < N) : (fillL N k x y)[k]? = some y := by
  unfold fillL
  rw [List.getElem?_append_right (by simp), List.length_replicate, Nat.sub_self, show N - k = (N - (k + 1)) + 1 by omega, List.replicate_succ]
  rfl
theorem fillL_all {N : Nat} {x y : Int} : fillL N N x y = List.replicate N x := by simp [fillL]
def wrapK (x : Int) : Int := (x.tmod 1000 + 1000).tmod 1000
theorem wrapK_bd (x : Int) : -1000 < x.tmod 1000 ∧ x.tmod 1000 < 1000 := ⟨Int.lt_tmod_of_pos x (by decide), Int.tmod_lt_of_pos x (by decide)⟩
theorem set_encI {l : List Int} {i : Nat} {x : Int} : (l.map encI).set i [.int .i64 x] = (l.set i x).map encI := by rw [List.map_set]; rfl
theorem set_encI' {l : List Int} {i : Nat} {x : Int} : (l.map encI).set i [ofConst (.int .i64 x)] = (l.set i x).map encI := set_encI
theorem setT_step {tb F : List Int} {A k : Nat} {x : Int} (h : A + k < tb.length) (hx : F[k]? = some x) : (setT tb A (F.take k)).set (A + k) x = setT tb A (F.take (k + 1)) := by
  have hk : k < F.length := (List.getElem?_eq_some_iff.1 hx).1
  have e1 : (F.take k).length = k := by simp; omega
  have e2 : (F.take (k + 1)).length = k + 1 := by simp; omega
  have b1 : setB tb A k = true := by simp [setB]; omega
  have b2 : setB tb A ((k + 1 : Nat) : Int).toNat = true := by simp [setB]; omega
  simp only [Int.toNat_natCast] at b2
  unfold setT
  rw [e1, e2, b1, b2]
  simp only [if_true, Int.toNat_natCast]
  rw [List.set_append_right _ _ (by simp; omega), List.take_add_one, hx]
  have e3 : A + k - (tb.take A ++ F.take k).length = 0 := by simp; omega
  rw [e3, show A + (k + 1) = (A + k) + 1 by omega]
  rw [← List.getElem_cons_drop h, List.set_cons_zero]
  simp
def ovr (l : List Int) (j : Nat) (x : Int) : List Int := List.replicate j x ++ l.drop j
theorem ovr_step {l : List Int} {j : Nat} {x : Int} (h : j < l.length) : (ovr l j x).set j x = ovr l (j + 1) x := by
  unfold ovr
  rw [List.set_append_right _ _ (by simp), List.length_replicate, Nat.sub_self, ← List.getElem_cons_drop h, List.set_cons_zero, List.replicate_succ' (n := j)]
  simp
theorem ovr_len {l : List Int} {j : Nat} {x : Int} (h : j ≤ l.length) : (ovr l j x).length = l.length := by simp [ovr]; omega
theorem ovr_at {l : List Int} {j : Nat} {x : Int} (h : j < l.length) : ∃ z, (ovr l j x)[j]? = some z := ⟨_, List.getElem?_eq_getElem (by rw [ovr_len (by omega)]; exact h)⟩
theorem setT_at {tb F : List Int} {A k : Nat} (h : A + k < tb.length) (hk : k ≤ F.length) : ∃ z, (setT tb A (F.take k))[A + k]? = some z := by
  refine ⟨_, List.getElem?_eq_getElem ?_⟩
  rw [setT_len]
  exact h

end Go.Proofs.Ytpdgnenffiphcaa
