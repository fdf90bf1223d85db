/- P14.2, P14.3: the support of a sum is the sum of the supports; the support of the negative is that in the opposite direction. -/
import Derived.Test.YtlnigbhimdphoaaMLinksF
import Derived.Test.YtlnigbhimdphoaaMLinksA
import Derived.Test.YtlnigbhimdphoaaCqConvexSupport
namespace Go.Proofs.Ytlnigbhimdphoaa.Z
open Go Go.RowKit Go.Proofs.Ytlnigbhimdphoaa.C Go.Proofs.Ytlnigbhimdphoaa.Geo Go.Proofs.YtlnigbhimdphoaaW.PrintWords Go.Proofs.YtlnigbhimdphoaaW.PrintMore

theorem within_1000 (x y : Int) : garmentref11_Within.f x y 1000 = some (decide ((-1000 ≤ x ∧ x ≤ 1000) ∧ (-1000 ≤ y ∧ y ≤ 1000))) := within_eq (⟨x, y⟩ : S30) 1000 (by omega)
theorem few_f (l m : List S30) : garmentlaw14_few.f l m = some (decide (l.length ≤ 20 ∧ m.length ≤ 20)) := by
  unfold garmentlaw14_few.f
  by_cases c : l.length ≤ 20
  · rw [if_pos (by omega)]
    congr 1
    exact decide_eq_decide.2 (by omega)
  · rw [if_neg (by omega), decide_eq_false (by omega)]

theorem sup_hull {L H : List S30} (h : IsHull L H) (hF : ∀ x ∈ L, Far x) {x y : Int} (hx : -1000 ≤ x ∧ x ≤ 1000) (hy : -1000 ≤ y ∧ y ≤ 1000) : supOf H x y = supOf L x y := by
  have hn : H ≠ [] := by intro e; have := h.three; rw [e] at this; simp at this
  have ln : L ≠ [] := by intro e; have := h.nthm 0; rw [e] at this; simp at this
  obtain ⟨⟨p, hp, e1⟩, a1⟩ := supOf_spec hn (fun x hx => hF x (h.mem x hx)) hx hy
  obtain ⟨⟨q, hq, e2⟩, a2⟩ := supOf_spec ln hF hx hy
  obtain ⟨v, hv, hm⟩ := h.support x y
  have s1 := a2 p (h.mem p hp)
  have s2 := hm q hq
  have s3 := a1 v hv
  rw [Int.mul_comm x, Int.mul_comm y, Int.mul_comm x, Int.mul_comm y] at s2
  omega
theorem sup_sums {L H M K O : List S30} (h : IsHull L H) (k : IsHull M K) (o : IsHull (sums H K) O) (hF : ∀ x ∈ L, Far x) (kF : ∀ x ∈ M, Far x) (oF : ∀ x ∈ O, Far x) {x y : Int} (hx : -1000 ≤ x ∧ x ≤ 1000) (hy : -1000 ≤ y ∧ y ≤ 1000) : supOf O x y = supOf L x y + supOf M x y := by
  rw [← sup_hull h hF hx hy, ← sup_hull k kF hx hy]
  have hn : H ≠ [] := by intro e; have := h.three; rw [e] at this; simp at this
  have kn : K ≠ [] := by intro e; have := k.three; rw [e] at this; simp at this
  have on : O ≠ [] := by intro e; have := o.three; rw [e] at this; simp at this
  obtain ⟨⟨p, hp, e1⟩, a1⟩ := supOf_spec hn (fun x hx => hF x (h.mem x hx)) hx hy
  obtain ⟨⟨q, hq, e2⟩, a2⟩ := supOf_spec kn (fun x hx => kF x (k.mem x hx)) hx hy
  obtain ⟨⟨r, hr, e3⟩, a3⟩ := supOf_spec on oF hx hy
  obtain ⟨u, hu, w, hw, e4⟩ := mem_sums.1 (o.mem r hr)
  have s1 := a1 u hu
  have s2 := a2 w hw
  have r0 : r.f0 = u.f0 + w.f0 := by rw [e4]; rfl
  have r1 : r.f1 = u.f1 + w.f1 := by rw [e4]; rfl
  rw [r0, r1, Int.add_mul, Int.add_mul] at e3
  obtain ⟨v, hv, hm⟩ := o.support x y
  have s3 := hm (Geo.add p q) (mem_sums.2 ⟨p, hp, q, hq, rfl⟩)
  have s4 := a3 v hv
  have p0 : (Geo.add p q).f0 = p.f0 + q.f0 := rfl
  have p1 : (Geo.add p q).f1 = p.f1 + q.f1 := rfl
  rw [p0, p1, Int.mul_comm x, Int.mul_comm y, Int.mul_comm x, Int.mul_comm y, Int.add_mul, Int.add_mul] at s3
  omega
theorem sup_neg {L : List S30} (hF : ∀ x ∈ L, Far x) (ln : L ≠ []) {x y : Int} (hx : -1000 ≤ x ∧ x ≤ 1000) (hy : -1000 ≤ y ∧ y ≤ 1000) : supOf (L.map negW) x y = supOf L (wrap64 (-x)) (wrap64 (-y)) := by
  rw [w64 (by omega) (by omega), w64 (by omega) (by omega)]
  have ne : ∀ z ∈ L, (negW z).f0 = -z.f0 ∧ (negW z).f1 = -z.f1 := fun z hz => by
    have := hF z hz
    unfold Far at this
    unfold negW
    exact ⟨w64 (by omega) (by omega), w64 (by omega) (by omega)⟩
  obtain ⟨⟨p, hp, e1⟩, a1⟩ := supOf_spec (l := L.map negW) (by simpa using ln) (fun z hz => by
    obtain ⟨w, hw, rfl⟩ := List.mem_map.1 hz
    have := hF w hw
    have := ne w hw
    unfold Far at *
    omega) hx hy
  obtain ⟨⟨q, hq, e2⟩, a2⟩ := supOf_spec ln hF (x := -x) (y := -y) (by omega) (by omega)
  obtain ⟨w, hw, rfl⟩ := List.mem_map.1 hp
  have s1 := a2 w hw
  have s2 := a1 (negW q) (List.mem_map.2 ⟨q, hq, rfl⟩)
  rw [(ne w hw).1, (ne w hw).2, Int.neg_mul, Int.neg_mul] at e1
  rw [(ne q hq).1, (ne q hq).2, Int.neg_mul, Int.neg_mul] at s2
  rw [Int.mul_neg, Int.mul_neg] at e2 s1
  omega
theorem sup_bound {L : List S30} (hF : ∀ x ∈ L, Far x) (ln : L ≠ []) {x y : Int} (hx : -1000 ≤ x ∧ x ≤ 1000) (hy : -1000 ≤ y ∧ y ≤ 1000) : -8388608000 ≤ supOf L x y ∧ supOf L x y ≤ 8388608000 := by
  obtain ⟨⟨p, hp, e1⟩, _⟩ := supOf_spec ln hF hx hy
  have := hF p hp
  unfold Far at this
  have m1 := mul_bound this.1 hx
  have m2 := mul_bound this.2 hy
  omega

theorem ConvexSupport : ConvexSupport.Pure := by
  intro l m x y _ _ _
  apply Ev.rounds
  have rest : Ev (fun k => garmentlaw14_ConvexSupport.j0 k l m true x y) true := Ev.step (fun k => by rw [garmentlaw14_ConvexSupport.j0, if_pos rfl]) awake_then
  by_cases c20 : l.length ≤ 20 ∧ m.length ≤ 20
  · by_cases cd : (-1000 ≤ x ∧ x ≤ 1000) ∧ (-1000 ≤ y ∧ y ≤ 1000)
    · obtain ⟨a, ha, h1⟩ := Hull_f l
      obtain ⟨b, hb, h2⟩ := Hull_f m
      obtain ⟨s, hs, h3⟩ := Sum_f ha hb h1 h2
      have la := h1.len
      refine Ev.congr (f := fun k => garmentlaw14_ConvexSupport.j0 k l m false x y) (fun k => by unfold garmentlaw14_ConvexSupport.f; rw [few_f, Option.bind_some, if_pos (by simpa using c20), within_1000, Option.bind_some, decide_eq_true cd]; rfl) ?_
      have fin : Ev (fun k => garmentlaw14_ConvexSupport.j1 k l m s.1 s.2 a.2 false x y) true := by
        by_cases c0 : s.2 = 0
        · have h4 : a.2 = 0 ∧ b.2 = 0 ∧ ∃ out, IsHull (sums a.1 b.1) out ∧ (∀ z ∈ out, Far z) ∧ out.length ≤ 160 ∧ s.1 = out := by
            rcases h3 with ⟨e, h⟩ | ⟨_, e, h⟩ | ⟨e1, e2, out, ho, _, _, h⟩
            · rw [h] at c0; exact absurd c0 e
            · rw [h] at c0; exact absurd c0 e
            · refine ⟨e1, e2, out, ho, ?_⟩
              unfold cut at h
              split at h
              · rw [h] at c0; simp at c0
              · rename_i hF
                split at h
                · rw [h] at c0; simp at c0
                · exact ⟨Classical.byContradiction hF, by omega, by rw [h]⟩
          obtain ⟨e1, e2, out, ho, oF, ol, es⟩ := h4
          obtain ⟨_, lF, _, lH⟩ := h1.zero e1
          obtain ⟨_, mF, _, mH⟩ := h2.zero e2
          have ln : l ≠ [] := by intro e; have := lH.nthm 0; rw [e] at this; simp at this
          have mn : m ≠ [] := by intro e; have := mH.nthm 0; rw [e] at this; simp at this
          have b1 := sup_bound lF ln cd.1 cd.2
          have b2 := sup_bound mF mn cd.1 cd.2
          refine Ev.step (f := fun k => (convex_Support.f k s.1 x y).bind fun t375 => ((convex_Support.f k l x y).bind fun t376 => ((convex_Support.f k m x y).bind fun t377 => (if t375 = (wrap64 (t376 + t377)) then ((garmentlaw14_awake.f k).bind fun t378 => (some t378)) else (some false))))) (fun k => by rw [garmentlaw14_ConvexSupport.j1, if_neg (by simp), if_pos c0, if_pos e1]) ?_
          refine Ev.bind (Support_f s.1 (by rw [es]; omega) x y) (Ev.bind (Support_f l (by omega) x y) (Ev.bind (Support_f m (by omega) x y) ?_))
          rw [es]
          exact Ev.congr (fun k => by rw [sup_sums lH mH ho lF mF oF cd.1 cd.2, w64 (by omega) (by omega), if_pos rfl]) awake_then
        · have es : s.1 = [] := by
            rcases h3 with ⟨e, h⟩ | ⟨_, e, h⟩ | ⟨e1, e2, out, ho, _, _, h⟩
            · rw [h]
            · rw [h]
            · unfold cut at h
              split at h
              · rw [h]
              · split at h
                · rw [h]
                · rw [h] at c0; simp at c0
          refine Ev.step (fun k => ?_) awake_then
          rw [garmentlaw14_ConvexSupport.j1, if_neg (by simp), if_neg c0, if_pos (by rw [es]; rfl)]
      refine Ev.step (f := fun k => (convex_Sum.f k l m).bind fun bt359 => ((convex_Hull.f k l).bind fun bt363 => (if bt363.2 = 0 then ((convex_Support.f k bt363.1 x y).bind fun t367 => ((convex_Support.f k l x y).bind fun t368 => (if t367 = t368 then ((convex_Negate.f k l).bind fun t369 => ((convex_Support.f k t369 x y).bind fun t372 => ((convex_Support.f k l (wrap64 (-x)) (wrap64 (-y))).bind fun t373 => (garmentlaw14_ConvexSupport.j1 k l m bt359.1 bt359.2 bt363.2 (t372 != t373) x y)))) else (garmentlaw14_ConvexSupport.j1 k l m bt359.1 bt359.2 bt363.2 true x y)))) else (garmentlaw14_ConvexSupport.j1 k l m bt359.1 bt359.2 bt363.2 false x y)))) (fun k => by rw [garmentlaw14_ConvexSupport.j0, if_neg (by simp)]) (Ev.bind hs (Ev.bind ha ?_))
      by_cases c0 : a.2 = 0
      · obtain ⟨_, lF, _, lH⟩ := h1.zero c0
        have ln : l ≠ [] := by intro e; have := lH.nthm 0; rw [e] at this; simp at this
        refine Ev.congr (fun k => by rw [if_pos c0]) (Ev.bind (Support_f a.1 (by omega) x y) (Ev.bind (Support_f l (by omega) x y) ?_))
        refine Ev.congr (fun k => by rw [if_pos (sup_hull lH lF cd.1 cd.2)]) (Ev.bind (Negate_f l (by omega)) (Ev.bind (Support_f (l.map negW) (by simp; omega) x y) (Ev.bind (Support_f l (by omega) _ _) ?_)))
        refine Ev.congr (fun k => ?_) fin
        rw [sup_neg lF ln cd.1 cd.2]
        simp
      · exact Ev.congr (fun k => by rw [if_neg c0]) fin
    · exact Ev.congr (fun k => by unfold garmentlaw14_ConvexSupport.f; rw [few_f, Option.bind_some, if_pos (by simpa using c20), within_1000, Option.bind_some, decide_eq_false cd]; rfl) rest
  · exact Ev.congr (fun k => by unfold garmentlaw14_ConvexSupport.f; rw [few_f, Option.bind_some, if_neg (by simpa using c20)]) rest
end Go.Proofs.Ytlnigbhimdphoaa.Z
