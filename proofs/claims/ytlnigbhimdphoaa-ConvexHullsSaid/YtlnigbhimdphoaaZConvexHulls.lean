/- P14.1: the program's hull is the reference's. -/
import Derived.Test.YtlnigbhimdphoaaMLinksW
import Derived.Test.YtlnigbhimdphoaaCqConvexHulls
namespace Go.Proofs.Ytlnigbhimdphoaa.Z
open Go Go.RowKit Go.Proofs.Ytlnigbhimdphoaa.C Go.Proofs.Ytlnigbhimdphoaa.Geo Go.Proofs.YtlnigbhimdphoaaW.PrintWords Go.Proofs.YtlnigbhimdphoaaW.PrintMore
theorem ConvexHulls : ConvexHulls.Pure := by
  intro l _
  apply Ev.rounds
  by_cases h : 170 < l.length
  · exact Ev.congr (fun k => by unfold garmentlaw14_ConvexHulls.f; rw [if_pos (by omega)]) awake_then
  · obtain ⟨a, ha, h1⟩ := Hull_f l
    obtain ⟨b, hb, h2⟩ := rHull_f l
    have e := h1.unique h2
    subst e
    refine Ev.congr (fun k => by unfold garmentlaw14_ConvexHulls.f; rw [if_neg (by omega)]) ?_
    refine Ev.bind ha (Ev.bind hb (Ev.bind (same_f a.1 a.1 (by have := h1.len; omega)) ?_))
    exact Ev.congr (fun k => by rw [decide_eq_true rfl, if_pos rfl, if_pos rfl]) awake_then
end Go.Proofs.Ytlnigbhimdphoaa.Z
