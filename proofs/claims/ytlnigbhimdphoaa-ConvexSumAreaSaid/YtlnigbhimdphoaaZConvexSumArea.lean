/- P14.1, P14.2: sums are commutative; a list with itself gives four times the area; a sum has at least both areas. -/
import Derived.Test.YtlnigbhimdphoaaMLinksF
import Derived.Test.YtlnigbhimdphoaaMLinksN
import Derived.Test.YtlnigbhimdphoaaCx25
import Derived.Test.YtlnigbhimdphoaaCqConvexSumArea
namespace Go.Proofs.Ytlnigbhimdphoaa.Z
open Go Go.RowKit Go.Proofs.Ytlnigbhimdphoaa.C Go.Proofs.Ytlnigbhimdphoaa.Geo Go.Proofs.YtlnigbhimdphoaaW.PrintWords Go.Proofs.YtlnigbhimdphoaaW.PrintMore

theorem few_f (l m : List S30) : garmentlaw14_few.f l m = some (decide (l.length ≤ 20 ∧ m.length ≤ 20)) := by
  unfold garmentlaw14_few.f
  by_cases c : l.length ≤ 20
  · rw [if_pos (by omega)]
    congr 1
    exact decide_eq_decide.2 (by omega)
  · rw [if_neg (by omega), decide_eq_false (by omega)]

theorem cx_bound {a b : S30} (ha : Far a) (hb : Far b) : (-17592186044416 ≤ a.f0 * b.f1 ∧ a.f0 * b.f1 ≤ 17592186044416) ∧ (-17592186044416 ≤ a.f1 * b.f0 ∧ a.f1 * b.f0 ≤ 17592186044416) := by
  unfold Far at ha hb
  have m1 := mul_bound ha.1 hb.2
  have m2 := mul_bound ha.2 hb.1
  omega
theorem part_bound {h : List S30} (hF : ∀ x ∈ h, Far x) (hp : 0 < h.length) : ∀ i : Nat, -(35184372088832 * (i : Int)) ≤ Geo.part h i ∧ Geo.part h i ≤ 35184372088832 * (i : Int)
  | 0 => by simp [Geo.part]
  | i + 1 => by
    have := part_bound hF hp i
    have b := cx_bound (nth_far hF hp i) (nth_far hF hp (i + 1))
    have : Geo.part h (i + 1) = Geo.part h i + ((nth h i).f0 * (nth h (i + 1)).f1 - (nth h i).f1 * (nth h (i + 1)).f0) := rfl
    omega
theorem twice_l0 (h : List S30) (hF : ∀ x ∈ h, Far x) (hl : h.length ≤ 1000) (n : Nat) : ∀ i : Nat, i + n = h.length → Ev (fun k => garmentref11_Twice.l0 k h (Geo.part h i) (i : Int)) (Geo.part h h.length) := by
  induction n with
  | zero =>
    intro i hi
    rw [show i = h.length by omega]
    exact Ev.step (f := fun _ => some (Geo.part h h.length)) (fun k => by simp only [garmentref11_Twice.l0]; rw [if_neg (by omega)]) (Ev.now _)
  | succ n ih =>
    intro i hi
    have hlt : i < h.length := by omega
    have hp : 0 < h.length := by omega
    have hm := Nat.mod_lt (i + 1) hp
    have e1 : h[i] = nth h i := (nth_lt h i hlt).symm
    have pb := part_bound hF hp i
    have b := cx_bound (nth_far hF hp i) (nth_far hF hp (i + 1))
    have ep : Geo.part h (i + 1) = Geo.part h i + ((nth h i).f0 * (nth h (i + 1)).f1 - (nth h i).f1 * (nth h (i + 1)).f0) := rfl
    refine Ev.step (f := fun k => garmentref11_Twice.l0 k h (Geo.part h (i + 1)) ((i + 1 : Nat) : Int)) (fun k => ?_) (ih (i + 1) (by omega))
    simp only [garmentref11_Twice.l0]
    rw [if_pos (lt_cast hlt), if_pos (ge0 i), if_neg (by omega), w64s (by omega), tmod_cast, if_pos (by omega), if_pos (by omega), rd_at hlt, rd_nth hp, e1]
    rw [w64 (i := (nth h i).f0 * (nth h (i + 1)).f1) (by omega) (by omega), w64 (i := (nth h i).f1 * (nth h (i + 1)).f0) (by omega) (by omega), w64 (i := Geo.part h i + _) (by omega) (by omega), w64 (by omega) (by omega), ep]
    congr 2
    omega
theorem Twice_f (h : List S30) (hF : ∀ x ∈ h, Far x) (hl : h.length ≤ 1000) : Ev (fun k => garmentref11_Twice.f k h) (Geo.part h h.length) := twice_l0 h hF hl h.length 0 (by omega)

theorem part_dbl {h : List S30} (hp : 0 < h.length) : ∀ i, Geo.part (h.map dbl) i = 4 * Geo.part h i
  | 0 => rfl
  | i + 1 => by
    have := part_dbl hp i
    show Geo.part (h.map dbl) i + cx (nth (h.map dbl) i) (nth (h.map dbl) (i + 1)) = 4 * (Geo.part h i + cx (nth h i) (nth h (i + 1)))
    rw [this, nth_map hp, nth_map hp]
    unfold cx dbl Geo.add
    grind

/-- the sum of near lists -/
theorem sum_near {l m : List S30} {a b s : List S30 × Int} (hl : l.length ≤ 20) (ml : m.length ≤ 20) (lN : ∀ x ∈ l, (-1048576 ≤ x.f0 ∧ x.f0 ≤ 1048576) ∧ (-1048576 ≤ x.f1 ∧ x.f1 ≤ 1048576)) (mN : ∀ x ∈ m, (-1048576 ≤ x.f0 ∧ x.f0 ≤ 1048576) ∧ (-1048576 ≤ x.f1 ∧ x.f1 ≤ 1048576)) (h1 : HullIs l a) (h2 : HullIs m b) (h3 : SumIs a b s) :
    (a.2 ≠ 0 ∧ s = ([], a.2)) ∨ (a.2 = 0 ∧ b.2 ≠ 0 ∧ s = ([], b.2)) ∨ (a.2 = 0 ∧ b.2 = 0 ∧ s.2 = 0 ∧ IsHull (sums a.1 b.1) s.1 ∧ (∀ x ∈ s.1, Far x) ∧ s.1.length ≤ 40 ∧ Geo.part a.1 a.1.length + Geo.part b.1 b.1.length ≤ Geo.part s.1 s.1.length) := by
  rcases h3 with h | h | ⟨e1, e2, out, ho, har, hol, h⟩
  · exact .inl h
  · exact .inr (.inl h)
  · obtain ⟨_, _, _, lH⟩ := h1.zero e1
    obtain ⟨_, _, _, mH⟩ := h2.zero e2
    have n1 := nodup_len lH.nodup lH.mem
    have n2 := nodup_len mH.nodup mH.mem
    have oF : ∀ x ∈ out, Far x := fun x hx => by
      obtain ⟨u, hu, w, hw, rfl⟩ := mem_sums.1 (ho.mem x hx)
      have := lN u (lH.mem u hu)
      have := mN w (mH.mem w hw)
      unfold Far Geo.add
      simp only
      omega
    have hs : s = (out, 0) := by
      rw [h]
      unfold cut
      rw [if_neg (fun h => h oF), if_neg (by omega)]
    subst hs
    refine .inr (.inr ⟨e1, e2, rfl, ho, oF, (by show out.length ≤ 40; omega), ?_⟩)
    rw [swept_closed ho.pos] at har
    exact har

theorem ConvexSumArea : ConvexSumArea.Pure := by
  intro l m _ _
  apply Ev.rounds
  have rest : Ev (fun k => garmentlaw14_ConvexSumArea.j0 k l m true) true := Ev.step (fun k => by rw [garmentlaw14_ConvexSumArea.j0, if_pos rfl]) awake_then
  by_cases c20 : l.length ≤ 20 ∧ m.length ≤ 20
  · obtain ⟨p, hp, hn⟩ := near_f l (by omega)
    obtain ⟨q, hq, kn⟩ := near_f m (by omega)
    refine Ev.congr (fun k => by unfold garmentlaw14_ConvexSumArea.f; rw [few_f, Option.bind_some, if_pos (by simpa using c20)]) (Ev.bind hp ?_)
    cases p with
    | false => exact Ev.congr (fun k => by rw [if_neg (by simp)]) rest
    | true =>
      refine Ev.congr (fun k => by rw [if_pos rfl]) (Ev.bind hq ?_)
      cases q with
      | false => exact rest
      | true =>
        have lN := hn rfl
        have mN := kn rfl
        obtain ⟨a, ha, h1⟩ := Hull_f l
        obtain ⟨b, hb, h2⟩ := Hull_f m
        obtain ⟨s, hs, h3⟩ := Sum_f ha hb h1 h2
        obtain ⟨t, ht, h4⟩ := Sum_f hb ha h2 h1
        obtain ⟨d, hd, h5⟩ := Sum_f ha ha h1 h1
        replace h3 := sum_near c20.1 c20.2 lN mN h1 h2 h3
        replace h4 := sum_near c20.2 c20.1 mN lN h2 h1 h4
        replace h5 := sum_near c20.1 c20.1 lN lN h1 h1 h5
        have la := h1.len
        have lb := h2.len
        have fa := h1.far
        have fb := h2.far
        have j1 : Ev (fun k => garmentlaw14_ConvexSumArea.j1 k m s.1 s.2 t.1 t.2 a.1 false) true := by
          refine Ev.step (f := fun k => if s.2 = 0 then (garmentlaw14_ConvexSumArea.j2 k m s.1 s.2 t.1 t.2 a.1 (t.2 != 0)) else (garmentlaw14_ConvexSumArea.j2 k m s.1 s.2 t.1 t.2 a.1 true)) (fun k => by rw [garmentlaw14_ConvexSumArea.j1, if_neg (by simp)]) ?_
          by_cases cz : a.2 = 0 ∧ b.2 = 0
          · obtain ⟨e1, e2⟩ := cz
            rcases h3 with ⟨e, _⟩ | ⟨_, e, _⟩ | ⟨_, _, s0, sH, sF, sl, sa⟩
            · exact absurd e1 e
            · exact absurd e2 e
            · rcases h4 with ⟨e, _⟩ | ⟨_, e, _⟩ | ⟨_, _, t0, tH, tF, tl, _⟩
              · exact absurd e2 e
              · exact absurd e1 e
              · have est : s.1 = t.1 := sH.unique (tH.of_mem (sums_comm b.1 a.1))
                have pa := part_bound fa (by have := (h1.zero e1).2.2.2.pos; exact this) a.1.length
                have pb := part_bound fb (by have := (h2.zero e2).2.2.2.pos; exact this) b.1.length
                refine Ev.congr (f := fun k => garmentlaw14_ConvexSumArea.j2 k m s.1 s.2 t.1 t.2 a.1 false) (fun k => by rw [if_pos s0, t0]; rfl) ?_
                refine Ev.step (f := fun k => (convex_Hull.f k m).bind fun bt475 => (if bt475.2 = 0 then ((garmentref11_Same.f k s.1 t.1).bind fun t479 => (if t479 = true then ((garmentref11_Twice.f k s.1).bind fun t480 => ((garmentref11_Twice.f k a.1).bind fun t481 => ((garmentref11_Twice.f k bt475.1).bind fun t482 => (if t480 ≥ (wrap64 (t481 + t482)) then ((garmentlaw14_awake.f k).bind fun t483 => (some t483)) else (some false))))) else (some false))) else (some false))) (fun k => by rw [garmentlaw14_ConvexSumArea.j2, if_neg (by simp)]) (Ev.bind hb ?_)
                refine Ev.congr (fun k => by rw [if_pos e2]) (Ev.bind (same_f s.1 t.1 (by omega)) ?_)
                refine Ev.congr (fun k => by rw [decide_eq_true est, if_pos rfl]) (Ev.bind (Twice_f s.1 sF (by omega)) (Ev.bind (Twice_f a.1 fa (by omega)) (Ev.bind (Twice_f b.1 fb (by omega)) ?_)))
                exact Ev.congr (fun k => by rw [w64 (by omega) (by omega), if_pos (by omega)]) awake_then
          · have s0 : s.2 ≠ 0 ∧ s.1 = [] := by
              rcases h3 with ⟨e, h⟩ | ⟨_, e, h⟩ | ⟨e1, e2, _⟩
              · rw [h]; exact ⟨e, rfl⟩
              · rw [h]; exact ⟨e, rfl⟩
              · exact absurd ⟨e1, e2⟩ cz
            have t0 : t.2 ≠ 0 ∧ t.1 = [] := by
              rcases h4 with ⟨e, h⟩ | ⟨_, e, h⟩ | ⟨e1, e2, _⟩
              · rw [h]; exact ⟨e, rfl⟩
              · rw [h]; exact ⟨e, rfl⟩
              · exact absurd ⟨e2, e1⟩ cz
            refine Ev.congr (f := fun k => garmentlaw14_ConvexSumArea.j2 k m s.1 s.2 t.1 t.2 a.1 true) (fun k => by rw [if_neg s0.1]) (Ev.step (fun k => ?_) awake_then)
            rw [garmentlaw14_ConvexSumArea.j2, if_pos rfl, if_neg s0.1, if_neg t0.1, s0.2, t0.2, if_pos (by decide +kernel)]
        refine Ev.congr (f := fun k => garmentlaw14_ConvexSumArea.j0 k l m false) (fun k => rfl) ?_
        refine Ev.step (f := fun k => (convex_Sum.f k l m).bind fun bt456 => ((convex_Sum.f k m l).bind fun bt460 => ((convex_Hull.f k l).bind fun bt464 => ((convex_Sum.f k l l).bind fun bt468 => (if bt464.2 = bt468.2 then (if bt464.2 = 0 then (if (bt468.1.length : Int) = (bt464.1.length : Int) then ((garmentref11_Twice.f k bt468.1).bind fun t472 => ((garmentref11_Twice.f k bt464.1).bind fun t473 => (garmentlaw14_ConvexSumArea.j1 k m bt456.1 bt456.2 bt460.1 bt460.2 bt464.1 (t472 != (wrap64 (4 * t473)))))) else (garmentlaw14_ConvexSumArea.j1 k m bt456.1 bt456.2 bt460.1 bt460.2 bt464.1 true)) else (garmentlaw14_ConvexSumArea.j1 k m bt456.1 bt456.2 bt460.1 bt460.2 bt464.1 false)) else (garmentlaw14_ConvexSumArea.j1 k m bt456.1 bt456.2 bt460.1 bt460.2 bt464.1 true)))))) (fun k => by rw [garmentlaw14_ConvexSumArea.j0, if_neg (by simp)]) (Ev.bind hs (Ev.bind ht (Ev.bind ha (Ev.bind hd ?_))))
        rcases h5 with ⟨e, h⟩ | ⟨e1, e, _⟩ | ⟨e1, _, d0, dH, dF, dl, _⟩
        · exact Ev.congr (fun k => by rw [if_pos (by rw [h]), if_neg e]) j1
        · exact absurd e1 e
        · have hH := (h1.zero e1).2.2.2.self
          have ed : d.1 = a.1.map dbl := dH.unique hH.twice
          have pa := part_bound fa hH.pos a.1.length
          refine Ev.congr (fun k => by rw [if_pos (by rw [e1, d0]), if_pos e1, if_pos (by rw [ed]; simp)]) (Ev.bind (Twice_f d.1 dF (by omega)) (Ev.bind (Twice_f a.1 fa (by omega)) ?_))
          refine Ev.congr (fun k => ?_) j1
          rw [w64 (by omega) (by omega), ed, List.length_map, part_dbl hH.pos]
          simp
  · exact Ev.congr (fun k => by unfold garmentlaw14_ConvexSumArea.f; rw [few_f, Option.bind_some, if_neg (by simpa using c20)]) rest
end Go.Proofs.Ytlnigbhimdphoaa.Z
