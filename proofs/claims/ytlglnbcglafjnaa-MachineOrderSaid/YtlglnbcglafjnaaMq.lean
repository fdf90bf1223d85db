/- What the laws' arguments read as, and what is known of what is read. -/
import Derived.Test.YtlglnbcglafjnaaMx0
import Derived.Test.YtlglnbcglafjnaaOpen
namespace Go.Proofs.Ytlglnbcglafjnaa.M
open Go Go.RowKit Go.Proofs.Ytlglnbcglafjnaa.Open Go.Proofs.YtlglnbcglafjnaaW.PrintWords Go.Proofs.YtlglnbcglafjnaaW.PrintLast Go.Proofs.YtlglnbcglafjnaaW.PrintMore
set_option linter.unusedVariables false
set_option linter.unusedSimpArgs false
theorem opens3 (w : World) : Opens Try.prog w 3 (Kd.int .i64) (fun x_ => (Lit.int .i64 x_).wf = true) := opens_int Try.underlying3

def Q36 (x_ : S36) : Prop := (Lit.int .i64 x_.f0).wf = true ∧ (Lit.int .i64 x_.f1).wf = true ∧ (Lit.int .i64 x_.f2).wf = true

theorem opens36 (w : World) : Opens Try.prog w 36 k36 Q36 := by
  intro H enc base spare held fuel cs x h
  obtain ⟨xs, n, _, _, hl, hxl, hf⟩ := DataW.trod_struct Try.underlying36 h
  have hC : Try.prog.cellsOf 36 = 3 := by kernel_rfl
  have h0 : DataW.trod enc Try.prog w base spare held n 3 ((cs.drop 0).take (Try.prog.cellsOf 3)) = xs[0]? := hf 0 _ rfl
  rw [show Try.prog.cellsOf 3 = 1 by kernel_rfl] at h0
  obtain ⟨a0, k0, q0⟩ := field_at (opens3 w) hxl (by decide) h0
  have h1 : DataW.trod enc Try.prog w base spare held n 3 ((cs.drop 1).take (Try.prog.cellsOf 3)) = xs[1]? := hf 1 _ rfl
  rw [show Try.prog.cellsOf 3 = 1 by kernel_rfl] at h1
  obtain ⟨a1, k1, q1⟩ := field_at (opens3 w) hxl (by decide) h1
  have h2 : DataW.trod enc Try.prog w base spare held n 3 ((cs.drop 2).take (Try.prog.cellsOf 3)) = xs[2]? := hf 2 _ rfl
  rw [show Try.prog.cellsOf 3 = 1 by kernel_rfl] at h2
  obtain ⟨a2, k2, q2⟩ := field_at (opens3 w) hxl (by decide) h2
  refine ⟨⟨a0, a1, a2⟩, ?_, q0, q1, q2⟩
  have hk := pair_at k0 rfl (pair_at k1 rfl (last_at k2 (by rw [hl, hC])))
  rw [List.drop_zero] at hk
  exact hk

theorem opens22 (w : World) : Opens Try.prog w 22 (Kd.slice 36 k36) (fun x_ => (x_.length ≤ maxLen ∧ ∀ y0_ ∈ x_, Q36 y0_)) := opens_slice 36 Try.underlying22 (opens36 w) (by kernel_rfl)

theorem opens5 (w : World) : Opens Try.prog w 5 (Kd.int .u8) (fun x_ => (Lit.int .u8 x_).wf = true) := opens_int Try.underlying5

end Go.Proofs.Ytlglnbcglafjnaa.M
