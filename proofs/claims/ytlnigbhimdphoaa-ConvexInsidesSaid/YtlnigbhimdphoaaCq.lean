/- What the laws' arguments read as, and what is known of what is read. -/
import Derived.Test.YtlnigbhimdphoaaCx0
import Derived.Test.YtlnigbhimdphoaaOpen
namespace Go.Proofs.Ytlnigbhimdphoaa.C
open Go Go.RowKit Go.Proofs.Ytlnigbhimdphoaa.Open Go.Proofs.YtlnigbhimdphoaaW.PrintWords Go.Proofs.YtlnigbhimdphoaaW.PrintLast Go.Proofs.YtlnigbhimdphoaaW.PrintMore
set_option linter.unusedVariables false
set_option linter.unusedSimpArgs false
theorem opens3 (w : World) : Opens Try.prog w 3 (Kd.int .i64) (fun x_ => (Lit.int .i64 x_).wf = true) := opens_int Try.underlying3

def Q30 (x_ : S30) : Prop := (Lit.int .i64 x_.f0).wf = true ∧ (Lit.int .i64 x_.f1).wf = true

theorem opens30 (w : World) : Opens Try.prog w 30 k30 Q30 := by
  intro H enc base spare held fuel cs x h
  obtain ⟨xs, n, _, _, hl, hxl, hf⟩ := DataW.trod_struct Try.underlying30 h
  have hC : Try.prog.cellsOf 30 = 2 := by kernel_rfl
  have h0 : DataW.trod enc Try.prog w base spare held n 3 ((cs.drop 0).take (Try.prog.cellsOf 3)) = xs[0]? := hf 0 _ rfl
  rw [show Try.prog.cellsOf 3 = 1 by kernel_rfl] at h0
  obtain ⟨a0, k0, q0⟩ := field_at (opens3 w) hxl (by decide) h0
  have h1 : DataW.trod enc Try.prog w base spare held n 3 ((cs.drop 1).take (Try.prog.cellsOf 3)) = xs[1]? := hf 1 _ rfl
  rw [show Try.prog.cellsOf 3 = 1 by kernel_rfl] at h1
  obtain ⟨a1, k1, q1⟩ := field_at (opens3 w) hxl (by decide) h1
  refine ⟨⟨a0, a1⟩, ?_, q0, q1⟩
  have hk := pair_at k0 rfl (last_at k1 (by rw [hl, hC]))
  rw [List.drop_zero] at hk
  exact hk

theorem opens22 (w : World) : Opens Try.prog w 22 (Kd.slice 30 k30) (fun x_ => (x_.length ≤ maxLen ∧ ∀ y0_ ∈ x_, Q30 y0_)) := opens_slice 30 Try.underlying22 (opens30 w) (by kernel_rfl)

theorem opens5 (w : World) : Opens Try.prog w 5 (Kd.int .u8) (fun x_ => (Lit.int .u8 x_).wf = true) := opens_int Try.underlying5

end Go.Proofs.Ytlnigbhimdphoaa.C
