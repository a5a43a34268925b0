/-
  How the arguments of the statements on host and judge are read.
-/
import Derived.Test.YtlbgnakpcjibjaaHost
import Derived.Test.YtlbgnakpcjibjaaRead
namespace Go.Proofs.Ytlbgnakpcjibjaa
open Go.RowKit Go.ChangeShapes Go.WideShapes Go.ChangeAt Go.Deep

theorem cells_int : Try.prog.cellsOf 3 = 1 := by kernel_rfl
theorem cells_int64 : Try.prog.cellsOf 2 = 1 := by kernel_rfl
theorem cells_bool : Try.prog.cellsOf 4 = 1 := by kernel_rfl
theorem cells_vals : Try.prog.cellsOf 23 = 1 := by kernel_rfl
theorem cells_val : Try.prog.cellsOf 28 = 2 := by kernel_rfl
theorem cells_call : Try.prog.cellsOf 34 = 6 := by kernel_rfl

theorem rd_val : Rd Try.prog 28 Val := by
  intro H enc W fuel cs x h
  obtain ⟨hl, hf⟩ := struct_cells Try.underlying28 cells_val h
  match cs, hl with
  | [c0, c1], _ =>
    obtain ⟨m0, y0, h0⟩ := hf 0 _ rfl
    obtain ⟨m1, y1, h1⟩ := hf 1 _ rfl
    simp [cells_int, cells_int64] at h0 h1
    obtain ⟨a0, e0, b0⟩ := rd_int Try.underlying3 H enc W _ _ _ h0
    obtain ⟨a1, e1, b1⟩ := rd_int Try.underlying2 H enc W _ _ _ h1
    obtain rfl : c0 = _ := by simpa using e0
    obtain rfl : c1 = _ := by simpa using e1
    exact ⟨⟨a0, a1⟩, rfl, b0, b1⟩
theorem rd_vals : Rd Try.prog 23 (List Val) := rd_slice Try.underlying23 cells_val (by decide) rd_val
theorem rd_ints : Rd Try.prog 22 (List Int) := rd_slice Try.underlying22 cells_int (by decide) (rd_int Try.underlying3)
theorem rd_call : Rd Try.prog 34 Call := by
  intro H enc W fuel cs x h
  obtain ⟨hl, hf⟩ := struct_cells Try.underlying34 cells_call h
  match cs, hl with
  | [c0, c1, c2, c3, c4, c5], _ =>
    obtain ⟨m0, y0, h0⟩ := hf 0 _ rfl
    obtain ⟨m1, y1, h1⟩ := hf 1 _ rfl
    obtain ⟨m2, y2, h2⟩ := hf 2 _ rfl
    obtain ⟨m3, y3, h3⟩ := hf 3 _ rfl
    obtain ⟨m4, y4, h4⟩ := hf 4 _ rfl
    obtain ⟨m5, y5, h5⟩ := hf 5 _ rfl
    simp [cells_int, cells_int64, cells_bool, cells_vals] at h0 h1 h2 h3 h4 h5
    obtain ⟨a0, e0, b0⟩ := rd_int Try.underlying3 H enc W _ _ _ h0
    obtain ⟨a1, e1, b1⟩ := rd_int Try.underlying3 H enc W _ _ _ h1
    obtain ⟨a2, e2, b2⟩ := rd_int Try.underlying3 H enc W _ _ _ h2
    obtain ⟨a3, A, cap, e3, s3⟩ := rd_vals H enc W _ _ _ h3
    obtain ⟨a4, e4⟩ := rd_bool Try.underlying4 H enc W _ _ _ h4
    replace e4 : [c4] = [.bool a4] := e4
    obtain ⟨a5, e5, b5⟩ := rd_int Try.underlying2 H enc W _ _ _ h5
    obtain rfl : c0 = _ := by simpa using e0
    obtain rfl : c1 = _ := by simpa using e1
    obtain rfl : c2 = _ := by simpa using e2
    obtain rfl : c3 = _ := by simpa using e3
    obtain rfl : c4 = _ := by simpa using e4
    obtain rfl : c5 = _ := by simpa using e5
    exact ⟨⟨a0, a1, a2, a3, a4, a5⟩, A, cap, rfl, s3, b0, b1, b2, b5⟩
theorem rd_calls : Rd Try.prog 31 (List Call) := rd_slice Try.underlying31 cells_call (by decide) rd_call

end Go.Proofs.Ytlbgnakpcjibjaa
