/- Plane vectors in whole numbers: the half plane of a direction, where the cross product is an order. Plain arithmetic; no function of the program stands here. -/
namespace Go.Proofs.Ytlnigbhimdphoaa.Vec
theorem nonneg_of_mul {a b : Int} (ha : 0 < a) (h : 0 ≤ a * b) : 0 ≤ b :=
  Int.not_lt.1 fun hb => absurd (Int.mul_neg_of_pos_of_neg ha hb) (Int.not_lt.2 h)
theorem nonpos_of_mul {a b : Int} (ha : 0 < a) (h : a * b ≤ 0) : b ≤ 0 :=
  Int.not_lt.1 fun hb => absurd (Int.mul_pos ha hb) (Int.not_lt.2 h)
theorem pos_of_mul {a b : Int} (ha : 0 < a) (h : 0 < a * b) : 0 < b :=
  Int.not_le.1 fun hb => absurd (Int.mul_nonpos_of_nonneg_of_nonpos (Int.le_of_lt ha) hb) (Int.not_le.2 h)
theorem zero_of_mul {a b : Int} (ha : 0 < a) (h : a * b = 0) : b = 0 := by
  rcases Int.mul_eq_zero.1 h with h | h
  · omega
  · exact h
theorem sq_nonneg (a : Int) : 0 ≤ a * a := by
  rcases Int.le_total 0 a with h | h
  · exact Int.mul_nonneg h h
  · exact Int.mul_nonneg_of_nonpos_of_nonpos h h

/-- v lies to the left of d, or straight behind it. -/
def H (dx dy vx vy : Int) : Prop := 0 < dx * vy - dy * vx ∨ (dx * vy - dy * vx = 0 ∧ dx * vx + dy * vy < 0)

theorem H.nonneg {dx dy vx vy : Int} (h : H dx dy vx vy) : 0 ≤ dx * vy - dy * vx := by
  rcases h with h | ⟨h, _⟩ <;> omega
theorem H.sq_pos {dx dy vx vy : Int} (h : H dx dy vx vy) : 0 < dx * dx + dy * dy := by
  have h1 := sq_nonneg dx
  have h2 := sq_nonneg dy
  apply Int.not_le.1
  intro h3
  have e1 : dx * dx = 0 := by omega
  have e2 : dy * dy = 0 := by omega
  have e1 : dx = 0 := by rcases Int.mul_eq_zero.1 e1 with h | h <;> exact h
  have e2 : dy = 0 := by rcases Int.mul_eq_zero.1 e2 with h | h <;> exact h
  subst e1
  subst e2
  rcases h with h | ⟨h, h'⟩ <;> simp at *
theorem H.ne {dx dy vx vy : Int} (h : H dx dy vx vy) : ¬ (vx = 0 ∧ vy = 0) := by
  rintro ⟨rfl, rfl⟩
  rcases h with h | ⟨h, h'⟩ <;> simp at *
theorem H.no_opp {dx dy vx vy : Int} (h : H dx dy vx vy) : ¬ H dx dy (-vx) (-vy) := by
  intro h'
  unfold H at h h'
  simp only [Int.mul_neg] at h'
  omega
theorem H.scale {dx dy vx vy k : Int} (hk : 0 < k) : H dx dy (k * vx) (k * vy) ↔ H dx dy vx vy := by
  have e1 : dx * (k * vy) - dy * (k * vx) = k * (dx * vy - dy * vx) := by grind
  have e2 : dx * (k * vx) + dy * (k * vy) = k * (dx * vx + dy * vy) := by grind
  unfold H
  rw [e1, e2]
  constructor
  · rintro (h | ⟨h, h'⟩)
    · exact .inl (pos_of_mul hk h)
    · refine .inr ⟨zero_of_mul hk h, ?_⟩
      have : 0 < k * (-(dx * vx + dy * vy)) := by rw [Int.mul_neg]; omega
      have := pos_of_mul hk this
      omega
  · rintro (h | ⟨h, h'⟩)
    · exact .inl (Int.mul_pos hk h)
    · exact .inr ⟨by rw [h]; simp, Int.mul_neg_of_pos_of_neg hk h'⟩

/-- In a half plane the cross product is a (weak) order. -/
theorem H.trans {dx dy ux uy vx vy wx wy : Int} (hu : H dx dy ux uy) (hv : H dx dy vx vy) (hw : H dx dy wx wy) (h1 : 0 ≤ ux * vy - uy * vx) (h2 : 0 ≤ vx * wy - vy * wx) : 0 ≤ ux * wy - uy * wx := by
  rcases hv with hv | ⟨hv, hv'⟩
  · apply nonneg_of_mul hv
    have e : (dx * vy - dy * vx) * (ux * wy - uy * wx) = (dx * uy - dy * ux) * (vx * wy - vy * wx) + (dx * wy - dy * wx) * (ux * vy - uy * vx) := by grind
    rw [e]
    exact Int.add_nonneg (Int.mul_nonneg hu.nonneg h2) (Int.mul_nonneg hw.nonneg h1)
  · have hd := hu.sq_pos
    have e1 : (dx * dx + dy * dy) * (vx * wy - vy * wx) = (dx * vx + dy * vy) * (dx * wy - dy * wx) - (dx * vy - dy * vx) * (dx * wx + dy * wy) := by grind
    have e2 : (dx * dx + dy * dy) * (ux * wy - uy * wx) = (dx * ux + dy * uy) * (dx * wy - dy * wx) - (dx * uy - dy * ux) * (dx * wx + dy * wy) := by grind
    rw [hv, Int.zero_mul, Int.sub_zero] at e1
    have h3 : 0 ≤ (dx * vx + dy * vy) * (dx * wy - dy * wx) := by rw [← e1]; exact Int.mul_nonneg (Int.le_of_lt hd) h2
    have h4 : dx * wy - dy * wx = 0 := by
      have := hw.nonneg
      rcases Int.lt_or_eq_of_le this with h | h
      · have := Int.mul_neg_of_neg_of_pos hv' h
        omega
      · exact h.symm
    have h5 : dx * wx + dy * wy < 0 := by
      rcases hw with hw | ⟨_, hw⟩
      · omega
      · exact hw
    rw [h4, Int.mul_zero, Int.zero_sub] at e2
    apply nonneg_of_mul hd
    rw [e2, ← Int.mul_neg]
    exact Int.mul_nonneg hu.nonneg (by omega)
theorem H.trans_lt {dx dy ux uy vx vy wx wy : Int} (hu : H dx dy ux uy) (hv : H dx dy vx vy) (hw : H dx dy wx wy) (h1 : 0 ≤ ux * vy - uy * vx) (h2 : 0 ≤ vx * wy - vy * wx) (h3 : 0 < ux * vy - uy * vx ∨ 0 < vx * wy - vy * wx) : 0 < ux * wy - uy * wx := by
  have h := H.trans hu hv hw h1 h2
  rcases Int.lt_or_eq_of_le h with h | h
  · exact h
  · exfalso
    have c1 : wx * uy - wy * ux = -(ux * wy - uy * wx) := by grind
    have c2 : vx * uy - vy * ux = -(ux * vy - uy * vx) := by grind
    have c3 : wx * vy - wy * vx = -(vx * wy - vy * wx) := by grind
    rcases h3 with h3 | h3
    · have := H.trans hv hw hu h2 (by omega)
      omega
    · have := H.trans hw hu hv (by omega) h1
      omega
/-- Two of a half plane that are parallel point the same way. -/
theorem H.same_way {dx dy ux uy vx vy : Int} (hu : H dx dy ux uy) (hv : H dx dy vx vy) (h : ux * vy - uy * vx = 0) : 0 < ux * vx + uy * vy := by
  have hd := hu.sq_pos
  have e : (dx * dx + dy * dy) * (ux * vx + uy * vy) = (dx * ux + dy * uy) * (dx * vx + dy * vy) + (dx * uy - dy * ux) * (dx * vy - dy * vx) := by grind
  have e2 : (dx * dx + dy * dy) * (ux * vy - uy * vx) = (dx * ux + dy * uy) * (dx * vy - dy * vx) - (dx * uy - dy * ux) * (dx * vx + dy * vy) := by grind
  rw [h, Int.mul_zero] at e2
  apply pos_of_mul hd
  rw [e]
  rcases hu with hu | ⟨hu, hu'⟩
  · rcases hv with hv | ⟨hv, hv'⟩
    · -- both strictly to the left: the projections have the same sign
      have h1 := Int.mul_pos hu hv
      have h2 : 0 ≤ (dx * ux + dy * uy) * (dx * vx + dy * vy) := by
        generalize dx * ux + dy * uy = p at *
        generalize dx * vx + dy * vy = q at *
        generalize dx * uy - dy * ux = r at *
        generalize dx * vy - dy * vx = s at *
        have e3 : p * s = r * q := by omega
        apply nonneg_of_mul hv
        have : s * (p * q) = r * (q * q) := by
          have : s * (p * q) = (p * s) * q := by grind
          rw [this, e3]
          grind
        rw [this]
        exact Int.mul_nonneg (Int.le_of_lt hu) (sq_nonneg q)
      omega
    · rw [hv, Int.mul_zero, Int.zero_sub] at e2
      have := Int.mul_neg_of_pos_of_neg hu hv'
      omega
  · rw [hu, Int.zero_mul, Int.sub_zero] at e2
    rcases hv with hv | ⟨hv, hv'⟩
    · have := Int.mul_neg_of_neg_of_pos hu' hv
      omega
    · rw [hu, Int.zero_mul, Int.add_zero]
      exact Int.mul_pos_of_neg_of_neg hu' hv'
end Go.Proofs.Ytlnigbhimdphoaa.Vec
