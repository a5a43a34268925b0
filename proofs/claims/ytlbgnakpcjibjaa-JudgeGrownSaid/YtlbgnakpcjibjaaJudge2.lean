/-
  Contracts of the package judge: what each call computes, and that it leaves all that was there as it was.
-/
import Derived.Test.YtlbgnakpcjibjaaJudge
namespace Go.Proofs.Ytlbgnakpcjibjaa
open Go.RowKit Go.ChangeShapes Go.WideShapes Go.ChangeAt Go.Deep

/-- the same call, but for where it was asked -/
def likeB (x y : Call) : Bool := decide (x.n = y.n ∧ x.fn = y.fn ∧ x.has = y.has ∧ x.ans = y.ans ∧ x.args = y.args)
theorem likeB_eq (x y : Call) : likeB x y = ((x.n == y.n) && (x.fn == y.fn) && (x.has == y.has) && (x.ans == y.ans) && decide (x.args = y.args)) := by
  unfold likeB
  by_cases h1 : x.n = y.n <;> by_cases h2 : x.fn = y.fn <;> by_cases h3 : x.has = y.has <;> by_cases h4 : x.ans = y.ans <;> simp [h1, h2, h3, h4]

set_option maxHeartbeats 1000000 in
theorem judgeSame (x y : Call) (S T : Nat → Prop) (cx cy : List Value) (w : World) (hx : Rp.rep w S cx x) (hy : Rp.rep w T cy y) (hS : ∀ b, S b → b < w.heap.size) (hT : ∀ b, T b → b < w.heap.size) :
    Calls Try.prog 29 #[.agg cx.toArray, .agg cy.toArray] w fun e w' => e = .returned (.bool (likeB x y)) ∧ Below w.heap.size w w' := by
  obtain ⟨A, c, rfl, hx, hx1, hx2, hx3, hx4⟩ := hx
  obtain ⟨B, d, rfl, hy, hy1, hy2, hy3, hy4⟩ := hy
  rw [likeB_eq]
  go_enter Try.func29, Try.ntmps29
  by_cases e1 : (x.n == y.n) = true
  · by_cases e2 : (x.fn == y.fn) = true
    · by_cases e3 : (x.has == y.has) = true
      · by_cases e4 : (x.ans == y.ans) = true
        · go_wp2_with (go_at_call 32; refine (slicesEqualVal _ _ _ _ _ _ x.args y.args S T _ ((hx.alloc hS _).alloc (fun b hb => by have := hS b hb; simp; omega) _) ((hy.alloc hT _).alloc (fun b hb => by have := hT b hb; simp; omega) _)).mono ?_; rintro e w' ⟨rfl, j, rfl⟩)
          go_ret
          refine ⟨ret_bool (by simp [e1, e2, e3, e4]), ?_⟩
          exact below_drewN (((Below.refl _ _).alloc (Nat.le_refl _) _).alloc (by simp) _) _
        · simp only [Bool.not_eq_true] at e4
          go_wp2
          go_ret
          exact ⟨ret_bool (by simp [e4]), ((Below.refl _ _).alloc (Nat.le_refl _) _).alloc (by simp) _⟩
      · simp only [Bool.not_eq_true] at e3
        go_wp2
        go_ret
        exact ⟨ret_bool (by simp [e3]), ((Below.refl _ _).alloc (Nat.le_refl _) _).alloc (by simp) _⟩
    · simp only [Bool.not_eq_true] at e2
      go_wp2
      go_ret
      exact ⟨ret_bool (by simp [e2]), ((Below.refl _ _).alloc (Nat.le_refl _) _).alloc (by simp) _⟩
  · simp only [Bool.not_eq_true] at e1
    go_wp2
    go_ret
    exact ⟨ret_bool (by simp [e1]), ((Below.refl _ _).alloc (Nat.le_refl _) _).alloc (by simp) _⟩

set_option maxHeartbeats 1000000 in
theorem like (x y : Call) (S T : Nat → Prop) (cx cy : List Value) (w : World) (hx : Rp.rep w S cx x) (hy : Rp.rep w T cy y) (hS : ∀ b, S b → b < w.heap.size) (hT : ∀ b, T b → b < w.heap.size) :
    Calls Try.prog 18 #[.agg cx.toArray, .agg cy.toArray] w fun e w' => e = .returned (.bool (likeB x y)) ∧ Below w.heap.size w w' := by
  obtain ⟨A, c, rfl, hx, hx1, hx2, hx3, hx4⟩ := hx
  obtain ⟨B, d, rfl, hy, hy1, hy2, hy3, hy4⟩ := hy
  rw [likeB_eq]
  go_enter Try.func18, Try.ntmps18
  by_cases e1 : (x.n == y.n) = true
  · by_cases e2 : (x.fn == y.fn) = true
    · by_cases e3 : (x.has == y.has) = true
      · by_cases e4 : (x.ans == y.ans) = true
        · go_wp2_with (go_at_call 15; refine (eqVals _ _ _ _ _ _ x.args y.args S T _ ((hx.alloc hS _).alloc (fun b hb => by have := hS b hb; simp; omega) _) ((hy.alloc hT _).alloc (fun b hb => by have := hT b hb; simp; omega) _)).mono ?_; rintro e w' ⟨rfl, j, rfl⟩)
          go_ret
          refine ⟨ret_bool (by simp [e1, e2, e3, e4]), ?_⟩
          exact below_drewN (((Below.refl _ _).alloc (Nat.le_refl _) _).alloc (by simp) _) _
        · simp only [Bool.not_eq_true] at e4
          go_wp2
          go_ret
          exact ⟨ret_bool (by simp [e4]), ((Below.refl _ _).alloc (Nat.le_refl _) _).alloc (by simp) _⟩
      · simp only [Bool.not_eq_true] at e3
        go_wp2
        go_ret
        exact ⟨ret_bool (by simp [e3]), ((Below.refl _ _).alloc (Nat.le_refl _) _).alloc (by simp) _⟩
    · simp only [Bool.not_eq_true] at e2
      go_wp2
      go_ret
      exact ⟨ret_bool (by simp [e2]), ((Below.refl _ _).alloc (Nat.le_refl _) _).alloc (by simp) _⟩
  · simp only [Bool.not_eq_true] at e1
    go_wp2
    go_ret
    exact ⟨ret_bool (by simp [e1]), ((Below.refl _ _).alloc (Nat.le_refl _) _).alloc (by simp) _⟩

end Go.Proofs.Ytlbgnakpcjibjaa
