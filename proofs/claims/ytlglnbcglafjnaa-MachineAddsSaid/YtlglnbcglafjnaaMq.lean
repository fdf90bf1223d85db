/- What the laws' arguments read as, and what is known of what is read. -/
import Derived.Test.YtlglnbcglafjnaaMx0
import Derived.Test.YtlglnbcglafjnaaOpen
namespace Go.Proofs.Ytlglnbcglafjnaa.M
open Go Go.RowKit Go.Proofs.Ytlglnbcglafjnaa.Open Go.Proofs.YtlglnbcglafjnaaW.PrintWords Go.Proofs.YtlglnbcglafjnaaW.PrintLast Go.Proofs.YtlglnbcglafjnaaW.PrintMore
set_option linter.unusedVariables false
set_option linter.unusedSimpArgs false
theorem opens3 (w : World) : Opens Try.prog w 3 (Kd.int .i64) (fun x_ => (Lit.int .i64 x_).wf = true) := opens_int Try.underlying3

def Q36 (x_ : S36) : Prop := (Lit.int .i64 x_.f0).wf = true ∧ (Lit.int .i64 x_.f1).wf = true ∧ (Lit.int .i64 x_.f2).wf = true

theorem opens36 (w : World) : Opens Try.prog w 36 k36 Q36 := by
  intro H enc base spare held fuel cs x h
  obtain ⟨xs, n, _, _, hl, hxl, hf⟩ := DataW.trod_struct Try.underlying36 h
  have hC : Try.prog.cellsOf 36 = 3 := by kernel_rfl
  have h0 : DataW.trod enc Try.prog w base spare held n 3 ((cs.drop 0).take (Try.prog.cellsOf 3)) = xs[0]? := hf 0 _ rfl
  rw [show Try.prog.cellsOf 3 = 1 by kernel_rfl] at h0
  obtain ⟨a0, k0, q0⟩ := field_at (opens3 w) hxl (by decide) h0
  have h1 : DataW.trod enc Try.prog w base spare held n 3 ((cs.drop 1).take (Try.prog.cellsOf 3)) = xs[1]? := hf 1 _ rfl
  rw [show Try.prog.cellsOf 3 = 1 by kernel_rfl] at h1
  obtain ⟨a1, k1, q1⟩ := field_at (opens3 w) hxl (by decide) h1
  have h2 : DataW.trod enc Try.prog w base spare held n 3 ((cs.drop 2).take (Try.prog.cellsOf 3)) = xs[2]? := hf 2 _ rfl
  rw [show Try.prog.cellsOf 3 = 1 by kernel_rfl] at h2
  obtain ⟨a2, k2, q2⟩ := field_at (opens3 w) hxl (by decide) h2
  refine ⟨⟨a0, a1, a2⟩, ?_, q0, q1, q2⟩
  have hk := pair_at k0 rfl (pair_at k1 rfl (last_at k2 (by rw [hl, hC])))
  rw [List.drop_zero] at hk
  exact hk

theorem opens22 (w : World) : Opens Try.prog w 22 (Kd.slice 36 k36) (fun x_ => (x_.length ≤ maxLen ∧ ∀ y0_ ∈ x_, Q36 y0_)) := opens_slice 36 Try.underlying22 (opens36 w) (by kernel_rfl)

def Q32 (x_ : S32) : Prop := (Lit.int .i64 x_.f0).wf = true ∧ (Lit.int .i64 x_.f1).wf = true ∧ (Lit.int .i64 x_.f2).wf = true

theorem opens32 {H : Type} {enc : TypeId × Value → H} {base : Nat} {spare : Nat → Bool} {held : Bool} (w : World) {fuel : Nat} {cs : Array Value} {x : DataW H × List MemPlace} (hs : cs.size = Try.prog.cellsOf 32) (h : DataW.trod enc Try.prog w base spare held fuel 32 cs.toList = some x) : ∃ a, k32.K w a cs.toList ∧ Q32 a := by
  rw [show Try.prog.cellsOf 32 = 3 by kernel_rfl] at hs
  obtain ⟨l⟩ := cs
  match l, hs with
  | [c0, c1, c2], _ =>
    obtain ⟨y0, y1, y2, n, _, h0, h1, h2⟩ := Go.ChangeShapes.trod_array3 Try.underlying32 (by kernel_rfl) h
    obtain ⟨a0, e0, q0⟩ := opens3 w _ _ _ _ _ _ _ _ h0
    simp only [Kd.int, Kd.scalar, List.cons.injEq, and_true] at e0
    subst e0
    obtain ⟨a1, e1, q1⟩ := opens3 w _ _ _ _ _ _ _ _ h1
    simp only [Kd.int, Kd.scalar, List.cons.injEq, and_true] at e1
    subst e1
    obtain ⟨a2, e2, q2⟩ := opens3 w _ _ _ _ _ _ _ _ h2
    simp only [Kd.int, Kd.scalar, List.cons.injEq, and_true] at e2
    subst e2
    exact ⟨⟨a0, a1, a2⟩, k32_mk w ⟨a0, a1, a2⟩, q0, q1, q2⟩

theorem opens5 (w : World) : Opens Try.prog w 5 (Kd.int .u8) (fun x_ => (Lit.int .u8 x_).wf = true) := opens_int Try.underlying5

end Go.Proofs.Ytlglnbcglafjnaa.M
