/- P14.3, P14.4: Inside, Negate and Support are the reference's. -/
import Derived.Test.YtlnigbhimdphoaaMLinksV
import Derived.Test.YtlnigbhimdphoaaCqConvexInsides
namespace Go.Proofs.Ytlnigbhimdphoaa.Z
open Go Go.RowKit Go.Proofs.Ytlnigbhimdphoaa.C Go.Proofs.Ytlnigbhimdphoaa.Geo Go.Proofs.YtlnigbhimdphoaaW.PrintWords Go.Proofs.YtlnigbhimdphoaaW.PrintMore
theorem ConvexInsides : ConvexInsides.Pure := by
  intro l x y _ _
  apply Ev.rounds
  by_cases h : 170 < l.length
  · exact Ev.congr (fun k => by unfold garmentlaw14_ConvexInsides.f; rw [if_pos (by omega)]) awake_then
  · obtain ⟨a, ha, h1⟩ := Hull_f l
    obtain ⟨b, hb, h2⟩ := rHull_f l
    have e := h1.unique h2
    subst e
    refine Ev.congr (fun k => by unfold garmentlaw14_ConvexInsides.f; rw [if_neg (by omega)]) ?_
    refine Ev.bind (Inside_f ha h1 (⟨x, y⟩ : S30)) (Ev.bind (rInside_f hb h2 (⟨x, y⟩ : S30)) ?_)
    refine Ev.congr (fun k => by rw [if_pos (by simp), if_pos rfl]) ?_
    refine Ev.bind (Negate_f l (by omega)) (Ev.bind (rNegate_f l (by omega)) (Ev.bind (same_f _ _ (by simp; omega)) ?_))
    refine Ev.congr (fun k => by rw [decide_eq_true rfl, if_pos rfl]) ?_
    refine Ev.bind (Support_f l (by omega) x y) (Ev.bind (rSupport_f l (by omega) x y) ?_)
    exact Ev.congr (fun k => by rw [if_pos rfl]) awake_then
end Go.Proofs.Ytlnigbhimdphoaa.Z
