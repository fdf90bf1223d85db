/- What the printed functions of chapter 14 come to: Sum. -/
import Derived.Test.YtlnigbhimdphoaaMLinksA
import Derived.Test.YtlnigbhimdphoaaMGeo
import Derived.Test.YtlnigbhimdphoaaCx9
namespace Go.Proofs.Ytlnigbhimdphoaa.Z
open Go Go.RowKit Go.Proofs.Ytlnigbhimdphoaa.C Go.Proofs.Ytlnigbhimdphoaa.Geo Go.Proofs.YtlnigbhimdphoaaW.PrintWords Go.Proofs.YtlnigbhimdphoaaW.PrintMore

theorem way_f {h : List S30} (hF : ∀ x ∈ h, Far x) (hp : 0 < h.length) {i : Nat} (hi : i ≤ 1000) : convex_way.f h (i : Int) = some (ex h i, ey h i) := by
  have m1 := Nat.mod_lt i hp
  have m2 := Nat.mod_lt (i + 1) hp
  have f1 := nth_far hF hp i
  have f2 := nth_far hF hp (i + 1)
  unfold Far at f1 f2
  unfold convex_way.f
  rw [if_neg (by omega), w64s (by omega), tmod_cast, tmod_cast, if_pos (by omega), if_pos (by omega), if_pos (by omega), if_pos (by omega), rd_nth hp, rd_nth hp, w64 (by omega) (by omega), w64 (by omega) (by omega)]
  rfl

theorem ex_far {h : List S30} (hF : ∀ x ∈ h, Far x) (hp : 0 < h.length) (i : Nat) : (-8388608 ≤ ex h i ∧ ex h i ≤ 8388608) ∧ (-8388608 ≤ ey h i ∧ ey h i ≤ 8388608) := by
  have f1 := nth_far hF hp i
  have f2 := nth_far hF hp (i + 1)
  unfold Far at f1 f2
  unfold ex ey
  omega

theorem sum_l0 {h k : List S30} (hF : ∀ x ∈ h, Far x) (kF : ∀ x ∈ k, Far x) (hl : h.length ≤ 200) (kl : k.length ≤ 200) (hs : IsHull h h) (ks : IsHull k k) (d : Nat) : ∀ (i j : Nat) (out : List S30) (a : S30) (x y : Int), (h.length - i) + (k.length - j) ≤ d → Trail h k out a i j x y →
    ∃ out' a' x' y', Trail h k out' a' h.length k.length x' y' ∧ ∀ res, Ev (fun f => convex_Sum.l1 f out' out' (out'.length : Int) 0) res → Ev (fun f => convex_Sum.l0 f h k out (i : Int) (j : Int) a.f0 a.f1) res := by
  induction d with
  | zero =>
    intro i j out a x y hd T
    have l1 := T.inv.le1
    have l2 := T.inv.le2
    have e1 : i = h.length := by omega
    have e2 : j = k.length := by omega
    subst e1
    subst e2
    refine ⟨out, a, x, y, T, fun res hr => ?_⟩
    refine Ev.step (f := fun f => convex_Sum.j1 f h k out (h.length : Int) (k.length : Int) false a.f0 a.f1) (fun f => ?_) (Ev.step (fun f => ?_) hr)
    · simp only [convex_Sum.l0]
      rw [if_neg (by omega), decide_eq_false (by omega)]
    · simp only [convex_Sum.j1]
      rw [if_neg (by simp)]
  | succ d ih =>
    intro i j out a x y hd T
    have l1 := T.inv.le1
    have l2 := T.inv.le2
    by_cases hn : i = h.length ∧ j = k.length
    · exact ih i j out a x y (by omega) T
    · have b1 := ex_far hF hs.pos i
      have b2 := ex_far kF ks.pos j
      have m1 := mul_bound b1.1 b2.2
      have m2 := mul_bound b1.2 b2.1
      have fa := nth_far hF hs.pos i
      have fb := nth_far kF ks.pos j
      have fa' := nth_far hF hs.pos (i + 1)
      have fb' := nth_far kF ks.pos (j + 1)
      unfold Far at fa fb fa' fb'
      have ea := T.at_
      have ho := T.size3
      have a0 : a.f0 = (nth h i).f0 + (nth k j).f0 := by rw [ea]; rfl
      have a1 : a.f1 = (nth h i).f1 + (nth k j).f1 := by rw [ea]; rfl
      generalize hc : ex h i * ey k j - ey h i * ex k j = c
      have hw : wrap64 ((wrap64 (ex h i * ey k j)) - (wrap64 (ey h i * ex k j))) = c := by
        rw [w64 (i := ex h i * ey k j) (by omega) (by omega), w64 (i := ey h i * ex k j) (by omega) (by omega), hc, w64 (by omega) (by omega)]
      have start : ∀ (b1_ b2_ : Bool), ((j = k.length ∧ b1_ = true) ∨ (j ≠ k.length ∧ i < h.length ∧ b1_ = decide (c ≥ 0)) ∨ (j ≠ k.length ∧ ¬ i < h.length ∧ b1_ = false)) → ((i = h.length ∧ b2_ = true) ∨ (i ≠ h.length ∧ j < k.length ∧ b2_ = decide (c ≤ 0)) ∨ (i ≠ h.length ∧ ¬ j < k.length ∧ b2_ = false)) → ∀ res,
          Ev (fun f => convex_Sum.j3 f h k (out ++ [a]) (i : Int) (j : Int) b1_ b2_ a.f0 a.f1 (ex h i) (ey h i) (ex k j) (ey k j)) res → Ev (fun f => convex_Sum.l0 f h k out (i : Int) (j : Int) a.f0 a.f1) res := by
        intro b1_ b2_ h1 h2 res hr
        have hj1 : Ev (fun f => convex_Sum.j1 f h k out (i : Int) (j : Int) true a.f0 a.f1) res := by
          refine Ev.step (f := fun f => convex_Sum.j2 f h k (out ++ [a]) (i : Int) (j : Int) c b1_ a.f0 a.f1 (ex h i) (ey h i) (ex k j) (ey k j)) (fun f => ?_) (Ev.step (fun f => ?_) hr)
          · simp only [convex_Sum.j1]
            rw [if_pos trivial, if_pos (by omega), way_f hF hs.pos (by omega), way_f kF ks.pos (by omega)]
            simp only [Option.bind_some]
            rw [hw]
            rcases h1 with ⟨e, rfl⟩ | ⟨e, e', rfl⟩ | ⟨e, e', rfl⟩
            · rw [if_pos (by omega)]
            · rw [if_neg (by omega), if_pos (by omega)]
            · rw [if_neg (by omega), if_neg (by omega)]
          · simp only [convex_Sum.j2]
            rcases h2 with ⟨e, rfl⟩ | ⟨e, e', rfl⟩ | ⟨e, e', rfl⟩
            · rw [if_pos (by omega)]
            · rw [if_neg (by omega), if_pos (by omega)]
            · rw [if_neg (by omega), if_neg (by omega)]
        refine Ev.step (fun f => ?_) hj1
        simp only [convex_Sum.l0]
        by_cases ci : i < h.length
        · rw [if_pos (by omega)]
        · rw [if_neg (by omega), decide_eq_true (by omega)]
      -- a side of the one
      have one : i < h.length → (j = k.length ∨ 0 < c) → ∃ out' a' x' y', Trail h k out' a' h.length k.length x' y' ∧ ∀ res, Ev (fun f => convex_Sum.l1 f out' out' (out'.length : Int) 0) res → Ev (fun f => convex_Sum.l0 f h k out (i : Int) (j : Int) a.f0 a.f1) res := by
        intro hi hcj
        have T' := T.one hs ks hi (by rw [hc]; exact hcj) l2
        obtain ⟨o, a', x', y', hT, hr⟩ := ih (i + 1) j _ _ _ _ (by omega) T'
        refine ⟨o, a', x', y', hT, fun res h1 => start true false ?_ ?_ res (Ev.step (fun f => ?_) (hr res h1))⟩
        · by_cases cj : j = k.length
          · exact .inl ⟨cj, rfl⟩
          · exact .inr (.inl ⟨cj, hi, by rw [decide_eq_true (by omega)]⟩)
        · by_cases cj : j < k.length
          · exact .inr (.inl ⟨by omega, cj, by rw [decide_eq_false (by omega)]⟩)
          · exact .inr (.inr ⟨by omega, cj, rfl⟩)
        · simp only [convex_Sum.j3]
          rw [if_pos trivial, if_neg (by simp), w64s (by omega), a0, a1, w64 (i := _ + ex h i) (by omega) (by omega), w64 (i := _ + ey h i) (by omega) (by omega)]
          have e0 : (nth h i).f0 + (nth k j).f0 + ex h i = (Geo.add (nth h (i + 1)) (nth k j)).f0 := by unfold ex Geo.add; simp only; omega
          have e1 : (nth h i).f1 + (nth k j).f1 + ey h i = (Geo.add (nth h (i + 1)) (nth k j)).f1 := by unfold ey Geo.add; simp only; omega
          rw [e0, e1]
      have other : j < k.length → (i = h.length ∨ c < 0) → ∃ out' a' x' y', Trail h k out' a' h.length k.length x' y' ∧ ∀ res, Ev (fun f => convex_Sum.l1 f out' out' (out'.length : Int) 0) res → Ev (fun f => convex_Sum.l0 f h k out (i : Int) (j : Int) a.f0 a.f1) res := by
        intro hj hci
        have T' := T.other hs ks hj (by rw [hc]; exact hci) l1
        obtain ⟨o, a', x', y', hT, hr⟩ := ih i (j + 1) _ _ _ _ (by omega) T'
        refine ⟨o, a', x', y', hT, fun res h1 => start false true ?_ ?_ res (Ev.step (fun f => ?_) (hr res h1))⟩
        · by_cases ci : i < h.length
          · exact .inr (.inl ⟨by omega, ci, by rw [decide_eq_false (by omega)]⟩)
          · exact .inr (.inr ⟨by omega, ci, rfl⟩)
        · by_cases ci : i = h.length
          · exact .inl ⟨ci, rfl⟩
          · exact .inr (.inl ⟨ci, hj, by rw [decide_eq_true (by omega)]⟩)
        · simp only [convex_Sum.j3]
          rw [if_neg (by simp), if_pos trivial, w64s (by omega), a0, a1, w64 (i := _ + ex k j) (by omega) (by omega), w64 (i := _ + ey k j) (by omega) (by omega)]
          have e0 : (nth h i).f0 + (nth k j).f0 + ex k j = (Geo.add (nth h i) (nth k (j + 1))).f0 := by unfold ex Geo.add; simp only; omega
          have e1 : (nth h i).f1 + (nth k j).f1 + ey k j = (Geo.add (nth h i) (nth k (j + 1))).f1 := by unfold ey Geo.add; simp only; omega
          rw [e0, e1]
      by_cases hi : i < h.length
      · by_cases hj : j < k.length
        · rcases Int.lt_trichotomy c 0 with hlt | heq | hgt
          · exact other hj (.inr hlt)
          · have T' := T.both hs ks hi hj (by rw [hc]; exact heq)
            obtain ⟨o, a', x', y', hT, hr⟩ := ih (i + 1) (j + 1) _ _ _ _ (by omega) T'
            refine ⟨o, a', x', y', hT, fun res h1 => start true true (.inr (.inl ⟨by omega, hi, by rw [decide_eq_true (by omega)]⟩)) (.inr (.inl ⟨by omega, hj, by rw [decide_eq_true (by omega)]⟩)) res (Ev.step (fun f => ?_) (hr res h1))⟩
            simp only [convex_Sum.j3]
            rw [if_pos trivial, if_pos trivial, w64s (by omega), w64s (by omega), a0, a1, w64 (i := _ + ex h i) (by omega) (by omega), w64 (i := _ + ey h i) (by omega) (by omega), w64 (i := _ + ex k j) (by omega) (by omega), w64 (i := _ + ey k j) (by omega) (by omega)]
            have e0 : (nth h i).f0 + (nth k j).f0 + ex h i + ex k j = (Geo.add (nth h (i + 1)) (nth k (j + 1))).f0 := by unfold ex Geo.add; simp only; omega
            have e1 : (nth h i).f1 + (nth k j).f1 + ey h i + ey k j = (Geo.add (nth h (i + 1)) (nth k (j + 1))).f1 := by unfold ey Geo.add; simp only; omega
            rw [e0, e1]
          · exact one hi (.inr hgt)
        · exact one hi (.inl (by omega))
      · exact other (by omega) (.inl (by omega))

/-- what Sum makes of the vertices -/
def cut (out : List S30) : List S30 × Int := if ¬ ∀ x ∈ out, Far x then ([], 3) else if 160 < out.length then ([], 5) else (out, 0)
theorem sum_l1 (out : List S30) (hl : out.length ≤ 1000) (n : Nat) : ∀ i : Nat, i + n = out.length → (∀ j (hj : j < out.length), j < i → Far out[j]) → Ev (fun f => convex_Sum.l1 f out out (out.length : Int) (i : Int)) (cut out) := by
  induction n with
  | zero =>
    intro i hi hinv
    have hF : ∀ x ∈ out, Far x := fun x hx => by
      obtain ⟨j, hj, rfl⟩ := List.mem_iff_getElem.1 hx
      exact hinv j hj (by omega)
    have e : cut out = if 160 < out.length then ([], 5) else (out, 0) := by unfold cut; rw [if_neg (fun h => h hF)]
    rw [e]
    by_cases c : 160 < out.length
    · rw [if_pos c]
      exact Ev.step (f := fun _ => some ([], 5)) (fun f => by simp only [convex_Sum.l1]; rw [if_neg (by omega), if_pos (by omega)]) (Ev.now _)
    · rw [if_neg c]
      exact Ev.step (f := fun _ => some (out, 0)) (fun f => by simp only [convex_Sum.l1]; rw [if_neg (by omega), if_neg (by omega)]) (Ev.now _)
  | succ n ih =>
    intro i hi hinv
    have hlt : i < out.length := by omega
    by_cases c : Far out[i]
    · refine Ev.step (f := fun f => convex_Sum.l1 f out out (out.length : Int) ((i + 1 : Nat) : Int)) (fun f => ?_) (ih (i + 1) (by omega) (fun j hj hji => by
        by_cases e : j = i
        · subst e; exact c
        · exact hinv j hj (by omega)))
      simp only [convex_Sum.l1]
      rw [if_pos (lt_cast hlt), if_pos (ge0 i), if_pos (lt_cast hlt), rd_at hlt, near_eq, Option.bind_some, if_pos (by simpa using c), w64s (by omega)]
    · have e : cut out = ([], 3) := by
        unfold cut
        rw [if_pos (fun h => c (h _ (List.getElem_mem hlt)))]
      rw [e]
      refine Ev.step (f := fun _ => some ([], 3)) (fun f => ?_) (Ev.now _)
      simp only [convex_Sum.l1]
      rw [if_pos (lt_cast hlt), if_pos (ge0 i), if_pos (lt_cast hlt), rd_at hlt, near_eq, Option.bind_some, if_neg (by simpa using c)]

/-- what Sum hands back, the hulls being a and b -/
def SumIs (a b r : List S30 × Int) : Prop :=
  (a.2 ≠ 0 ∧ r = ([], a.2)) ∨ (a.2 = 0 ∧ b.2 ≠ 0 ∧ r = ([], b.2)) ∨ (a.2 = 0 ∧ b.2 = 0 ∧ ∃ out, IsHull (sums a.1 b.1) out ∧ Geo.part a.1 a.1.length + Geo.part b.1 b.1.length ≤ swept (out ++ [nth out 0]) ∧ out.length ≤ a.1.length + b.1.length ∧ r = cut out)
theorem Sum_f {l m : List S30} {a b : List S30 × Int} (ha : Ev (fun k => convex_Hull.f k l) a) (hb : Ev (fun k => convex_Hull.f k m) b) (h1 : HullIs l a) (h2 : HullIs m b) : ∃ r, Ev (fun k => convex_Sum.f k l m) r ∧ SumIs a b r := by
  by_cases ca : a.2 = 0
  · by_cases cb : b.2 = 0
    · obtain ⟨_, lF, _, hH⟩ := h1.zero ca
      obtain ⟨_, mF, _, kH⟩ := h2.zero cb
      have hF := h1.far
      have kF := h2.far
      have hs := hH.self
      have ks := kH.self
      have la := h1.len
      have lb := h2.len
      obtain ⟨out, a', x', y', T, hT⟩ := sum_l0 hF kF (by omega) (by omega) hs ks (a.1.length + b.1.length) 0 0 [] _ 0 (-1) (by omega) (Trail.start hs ks)
      have hol := T.size3
      refine ⟨cut out, ?_, .inr (.inr ⟨ca, cb, out, T.hull hs ks, T.closed hs, hol, rfl⟩)⟩
      refine Ev.bind (f := fun k bt180 => (if bt180.2 = 0 then ((convex_Hull.f k m).bind fun bt184 => (if bt184.2 = 0 then (if 0 < (bt180.1.length : Int) then (if 0 < (bt184.1.length : Int) then (convex_Sum.l0 k bt180.1 bt184.1 ([] : List (S30)) 0 0 (wrap64 (((rd_T30 bt180.1 0).f0) + ((rd_T30 bt184.1 0).f0))) (wrap64 (((rd_T30 bt180.1 0).f1) + ((rd_T30 bt184.1 0).f1)))) else (none)) else (none)) else (some (([] : List (S30)), bt184.2)))) else (some (([] : List (S30)), bt180.2)))) ha ?_
      refine Ev.congr (fun k => by rw [if_pos ca]) (Ev.bind hb ?_)
      refine Ev.congr (fun k => ?_) (hT (cut out) (sum_l1 out (by omega) out.length 0 (by omega) (fun j _ hj => by omega)))
      have p1 := hs.pos
      have p2 := ks.pos
      have r1 : rd_T30 a.1 0 = nth a.1 0 := by have := rd_at (l := a.1) (i := 0) p1; rw [nth_lt a.1 0 p1]; exact this
      have r2 : rd_T30 b.1 0 = nth b.1 0 := by have := rd_at (l := b.1) (i := 0) p2; rw [nth_lt b.1 0 p2]; exact this
      have f1 := nth_far hF p1 0
      have f2 := nth_far kF p2 0
      unfold Far at f1 f2
      rw [if_pos cb, if_pos (by omega), if_pos (by omega), r1, r2, w64 (by omega) (by omega), w64 (by omega) (by omega)]
      rfl
    · refine ⟨([], b.2), ?_, .inr (.inl ⟨ca, cb, rfl⟩)⟩
      refine Ev.bind (f := fun k bt180 => (if bt180.2 = 0 then ((convex_Hull.f k m).bind fun bt184 => (if bt184.2 = 0 then (if 0 < (bt180.1.length : Int) then (if 0 < (bt184.1.length : Int) then (convex_Sum.l0 k bt180.1 bt184.1 ([] : List (S30)) 0 0 (wrap64 (((rd_T30 bt180.1 0).f0) + ((rd_T30 bt184.1 0).f0))) (wrap64 (((rd_T30 bt180.1 0).f1) + ((rd_T30 bt184.1 0).f1)))) else (none)) else (none)) else (some (([] : List (S30)), bt184.2)))) else (some (([] : List (S30)), bt180.2)))) ha ?_
      exact Ev.congr (fun k => by rw [if_pos ca]) (Ev.bind hb (Ev.congr (f := fun _ => some ([], b.2)) (fun k => by rw [if_neg cb]) (Ev.now _)))
  · refine ⟨([], a.2), ?_, .inl ⟨ca, rfl⟩⟩
    refine Ev.bind (f := fun k bt180 => (if bt180.2 = 0 then ((convex_Hull.f k m).bind fun bt184 => (if bt184.2 = 0 then (if 0 < (bt180.1.length : Int) then (if 0 < (bt184.1.length : Int) then (convex_Sum.l0 k bt180.1 bt184.1 ([] : List (S30)) 0 0 (wrap64 (((rd_T30 bt180.1 0).f0) + ((rd_T30 bt184.1 0).f0))) (wrap64 (((rd_T30 bt180.1 0).f1) + ((rd_T30 bt184.1 0).f1)))) else (none)) else (none)) else (some (([] : List (S30)), bt184.2)))) else (some (([] : List (S30)), bt180.2)))) ha ?_
    exact Ev.congr (f := fun _ => some ([], a.2)) (fun k => by rw [if_neg ca]) (Ev.now _)
end Go.Proofs.Ytlnigbhimdphoaa.Z
