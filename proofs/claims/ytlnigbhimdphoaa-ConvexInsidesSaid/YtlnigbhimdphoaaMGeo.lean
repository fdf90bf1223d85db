/- Plane vectors in whole numbers: the half plane of a direction, where the cross product is an order. Plain arithmetic; no function of the program stands here. What a hull of points is, and that there is one at most. Plain geometry; no function of the program stands here. Gift wrapping: from each vertex to the next. It gives the hull, or fewer than three vertices where all points lie on a line. Plain geometry; no function of the program stands here. The monotone chains: the two halves of a hull, out of the sorted points. Plain geometry; no function of the program stands here. The two chains together are the hull. Plain geometry; no function of the program stands here. -/
import Derived.Test.YtlnigbhimdphoaaCx0
section
namespace Go.Proofs.Ytlnigbhimdphoaa.Vec
theorem nonneg_of_mul {a b : Int} (ha : 0 < a) (h : 0 ≤ a * b) : 0 ≤ b :=
  Int.not_lt.1 fun hb => absurd (Int.mul_neg_of_pos_of_neg ha hb) (Int.not_lt.2 h)
theorem nonpos_of_mul {a b : Int} (ha : 0 < a) (h : a * b ≤ 0) : b ≤ 0 :=
  Int.not_lt.1 fun hb => absurd (Int.mul_pos ha hb) (Int.not_lt.2 h)
theorem pos_of_mul {a b : Int} (ha : 0 < a) (h : 0 < a * b) : 0 < b :=
  Int.not_le.1 fun hb => absurd (Int.mul_nonpos_of_nonneg_of_nonpos (Int.le_of_lt ha) hb) (Int.not_le.2 h)
theorem zero_of_mul {a b : Int} (ha : 0 < a) (h : a * b = 0) : b = 0 := by
  rcases Int.mul_eq_zero.1 h with h | h
  · omega
  · exact h
theorem sq_nonneg (a : Int) : 0 ≤ a * a := by
  rcases Int.le_total 0 a with h | h
  · exact Int.mul_nonneg h h
  · exact Int.mul_nonneg_of_nonpos_of_nonpos h h

/-- v lies to the left of d, or straight behind it. -/
def H (dx dy vx vy : Int) : Prop := 0 < dx * vy - dy * vx ∨ (dx * vy - dy * vx = 0 ∧ dx * vx + dy * vy < 0)

theorem H.nonneg {dx dy vx vy : Int} (h : H dx dy vx vy) : 0 ≤ dx * vy - dy * vx := by
  rcases h with h | ⟨h, _⟩ <;> omega
theorem H.sq_pos {dx dy vx vy : Int} (h : H dx dy vx vy) : 0 < dx * dx + dy * dy := by
  have h1 := sq_nonneg dx
  have h2 := sq_nonneg dy
  apply Int.not_le.1
  intro h3
  have e1 : dx * dx = 0 := by omega
  have e2 : dy * dy = 0 := by omega
  have e1 : dx = 0 := by rcases Int.mul_eq_zero.1 e1 with h | h <;> exact h
  have e2 : dy = 0 := by rcases Int.mul_eq_zero.1 e2 with h | h <;> exact h
  subst e1
  subst e2
  rcases h with h | ⟨h, h'⟩ <;> simp at *
theorem H.ne {dx dy vx vy : Int} (h : H dx dy vx vy) : ¬ (vx = 0 ∧ vy = 0) := by
  rintro ⟨rfl, rfl⟩
  rcases h with h | ⟨h, h'⟩ <;> simp at *
theorem H.no_opp {dx dy vx vy : Int} (h : H dx dy vx vy) : ¬ H dx dy (-vx) (-vy) := by
  intro h'
  unfold H at h h'
  simp only [Int.mul_neg] at h'
  omega
theorem H.scale {dx dy vx vy k : Int} (hk : 0 < k) : H dx dy (k * vx) (k * vy) ↔ H dx dy vx vy := by
  have e1 : dx * (k * vy) - dy * (k * vx) = k * (dx * vy - dy * vx) := by grind
  have e2 : dx * (k * vx) + dy * (k * vy) = k * (dx * vx + dy * vy) := by grind
  unfold H
  rw [e1, e2]
  constructor
  · rintro (h | ⟨h, h'⟩)
    · exact .inl (pos_of_mul hk h)
    · refine .inr ⟨zero_of_mul hk h, ?_⟩
      have : 0 < k * (-(dx * vx + dy * vy)) := by rw [Int.mul_neg]; omega
      have := pos_of_mul hk this
      omega
  · rintro (h | ⟨h, h'⟩)
    · exact .inl (Int.mul_pos hk h)
    · exact .inr ⟨by rw [h]; simp, Int.mul_neg_of_pos_of_neg hk h'⟩

/-- In a half plane the cross product is a (weak) order. -/
theorem H.trans {dx dy ux uy vx vy wx wy : Int} (hu : H dx dy ux uy) (hv : H dx dy vx vy) (hw : H dx dy wx wy) (h1 : 0 ≤ ux * vy - uy * vx) (h2 : 0 ≤ vx * wy - vy * wx) : 0 ≤ ux * wy - uy * wx := by
  rcases hv with hv | ⟨hv, hv'⟩
  · apply nonneg_of_mul hv
    have e : (dx * vy - dy * vx) * (ux * wy - uy * wx) = (dx * uy - dy * ux) * (vx * wy - vy * wx) + (dx * wy - dy * wx) * (ux * vy - uy * vx) := by grind
    rw [e]
    exact Int.add_nonneg (Int.mul_nonneg hu.nonneg h2) (Int.mul_nonneg hw.nonneg h1)
  · have hd := hu.sq_pos
    have e1 : (dx * dx + dy * dy) * (vx * wy - vy * wx) = (dx * vx + dy * vy) * (dx * wy - dy * wx) - (dx * vy - dy * vx) * (dx * wx + dy * wy) := by grind
    have e2 : (dx * dx + dy * dy) * (ux * wy - uy * wx) = (dx * ux + dy * uy) * (dx * wy - dy * wx) - (dx * uy - dy * ux) * (dx * wx + dy * wy) := by grind
    rw [hv, Int.zero_mul, Int.sub_zero] at e1
    have h3 : 0 ≤ (dx * vx + dy * vy) * (dx * wy - dy * wx) := by rw [← e1]; exact Int.mul_nonneg (Int.le_of_lt hd) h2
    have h4 : dx * wy - dy * wx = 0 := by
      have := hw.nonneg
      rcases Int.lt_or_eq_of_le this with h | h
      · have := Int.mul_neg_of_neg_of_pos hv' h
        omega
      · exact h.symm
    have h5 : dx * wx + dy * wy < 0 := by
      rcases hw with hw | ⟨_, hw⟩
      · omega
      · exact hw
    rw [h4, Int.mul_zero, Int.zero_sub] at e2
    apply nonneg_of_mul hd
    rw [e2, ← Int.mul_neg]
    exact Int.mul_nonneg hu.nonneg (by omega)
theorem H.trans_lt {dx dy ux uy vx vy wx wy : Int} (hu : H dx dy ux uy) (hv : H dx dy vx vy) (hw : H dx dy wx wy) (h1 : 0 ≤ ux * vy - uy * vx) (h2 : 0 ≤ vx * wy - vy * wx) (h3 : 0 < ux * vy - uy * vx ∨ 0 < vx * wy - vy * wx) : 0 < ux * wy - uy * wx := by
  have h := H.trans hu hv hw h1 h2
  rcases Int.lt_or_eq_of_le h with h | h
  · exact h
  · exfalso
    have c1 : wx * uy - wy * ux = -(ux * wy - uy * wx) := by grind
    have c2 : vx * uy - vy * ux = -(ux * vy - uy * vx) := by grind
    have c3 : wx * vy - wy * vx = -(vx * wy - vy * wx) := by grind
    rcases h3 with h3 | h3
    · have := H.trans hv hw hu h2 (by omega)
      omega
    · have := H.trans hw hu hv (by omega) h1
      omega
/-- Two of a half plane that are parallel point the same way. -/
theorem H.same_way {dx dy ux uy vx vy : Int} (hu : H dx dy ux uy) (hv : H dx dy vx vy) (h : ux * vy - uy * vx = 0) : 0 < ux * vx + uy * vy := by
  have hd := hu.sq_pos
  have e : (dx * dx + dy * dy) * (ux * vx + uy * vy) = (dx * ux + dy * uy) * (dx * vx + dy * vy) + (dx * uy - dy * ux) * (dx * vy - dy * vx) := by grind
  have e2 : (dx * dx + dy * dy) * (ux * vy - uy * vx) = (dx * ux + dy * uy) * (dx * vy - dy * vx) - (dx * uy - dy * ux) * (dx * vx + dy * vy) := by grind
  rw [h, Int.mul_zero] at e2
  apply pos_of_mul hd
  rw [e]
  rcases hu with hu | ⟨hu, hu'⟩
  · rcases hv with hv | ⟨hv, hv'⟩
    · -- both strictly to the left: the projections have the same sign
      have h1 := Int.mul_pos hu hv
      have h2 : 0 ≤ (dx * ux + dy * uy) * (dx * vx + dy * vy) := by
        generalize dx * ux + dy * uy = p at *
        generalize dx * vx + dy * vy = q at *
        generalize dx * uy - dy * ux = r at *
        generalize dx * vy - dy * vx = s at *
        have e3 : p * s = r * q := by omega
        apply nonneg_of_mul hv
        have : s * (p * q) = r * (q * q) := by
          have : s * (p * q) = (p * s) * q := by grind
          rw [this, e3]
          grind
        rw [this]
        exact Int.mul_nonneg (Int.le_of_lt hu) (sq_nonneg q)
      omega
    · rw [hv, Int.mul_zero, Int.zero_sub] at e2
      have := Int.mul_neg_of_pos_of_neg hu hv'
      omega
  · rw [hu, Int.zero_mul, Int.sub_zero] at e2
    rcases hv with hv | ⟨hv, hv'⟩
    · have := Int.mul_neg_of_neg_of_pos hu' hv
      omega
    · rw [hu, Int.zero_mul, Int.add_zero]
      exact Int.mul_pos_of_neg_of_neg hu' hv'
end Go.Proofs.Ytlnigbhimdphoaa.Vec
end

section
namespace Go.Proofs.Ytlnigbhimdphoaa.Geo
open Go.Proofs.Ytlnigbhimdphoaa.C Go.Proofs.Ytlnigbhimdphoaa.Vec
/-- The cross product of the ways from a to b and from a to c. -/
def cr (a b c : S30) : Int := (b.f0 - a.f0) * (c.f1 - a.f1) - (b.f1 - a.f1) * (c.f0 - a.f0)
def lt (a b : S30) : Prop := a.f0 < b.f0 ∨ (a.f0 = b.f0 ∧ a.f1 < b.f1)
theorem ext {a b : S30} (h0 : a.f0 = b.f0) (h1 : a.f1 = b.f1) : a = b := by cases a; cases b; simp_all
theorem lt_irrefl (a : S30) : ¬ lt a a := by unfold lt; omega
theorem lt_trans {a b c : S30} (h1 : lt a b) (h2 : lt b c) : lt a c := by unfold lt at *; omega
theorem lt_tri (a b : S30) : lt a b ∨ a = b ∨ lt b a := by
  unfold lt
  by_cases h : a.f0 = b.f0
  · by_cases h' : a.f1 = b.f1
    · exact .inr (.inl (ext h h'))
    · omega
  · omega
theorem eq_of_not_lt {a b : S30} (h1 : ¬ lt a b) (h2 : ¬ lt b a) : a = b := by
  rcases lt_tri a b with h | h | h
  · exact absurd h h1
  · exact h
  · exact absurd h h2
theorem not_lt_of_lt {a b : S30} (h : lt a b) : ¬ lt b a := by unfold lt at *; omega
theorem cr_swap (a b c : S30) : cr a c b = - cr a b c := by unfold cr; grind
theorem cr_self (a b : S30) : cr a b b = 0 := by unfold cr; grind
theorem cr_self' (a b : S30) : cr a b a = 0 := by unfold cr; grind
theorem cr_eq (a c : S30) : cr a a c = 0 := by unfold cr; grind

/-- The vertex i, round and round. -/
def nth (H : List S30) (i : Nat) : S30 := H.getD (i % H.length) ⟨0, 0⟩
theorem nth_add (H : List S30) (i : Nat) : nth H (i + H.length) = nth H i := by unfold nth; rw [Nat.add_mod_right]
theorem nth_len (H : List S30) : nth H H.length = nth H 0 := by have := nth_add H 0; rwa [Nat.zero_add] at this
theorem nth_lt (H : List S30) (i : Nat) (h : i < H.length) : nth H i = H[i] := by
  unfold nth
  rw [Nat.mod_eq_of_lt h, List.getD_eq_getElem?_getD, List.getElem?_eq_getElem h]
  rfl
theorem nth_mod (H : List S30) (i : Nat) : nth H (i % H.length) = nth H i := by unfold nth; rw [Nat.mod_mod]
theorem nth_mem (H : List S30) (i : Nat) (h : 0 < H.length) : nth H i ∈ H := by
  have := Nat.mod_lt i h
  rw [← nth_mod, nth_lt H _ this]
  exact List.getElem_mem this
theorem mem_nth {H : List S30} {v : S30} (h : v ∈ H) : ∃ i, i < H.length ∧ v = nth H i := by
  obtain ⟨i, hi, rfl⟩ := List.mem_iff_getElem.1 h
  exact ⟨i, hi, (nth_lt H i hi).symm⟩

/-- H is the hull of L: its vertices are points of L, no point lies to the right of a side, it turns strictly to the left at each vertex, and the least point comes first. -/
structure IsHull (L H : List S30) : Prop where
  three : 3 ≤ H.length
  mem : ∀ v ∈ H, v ∈ L
  left : ∀ i, ∀ p ∈ L, 0 ≤ cr (nth H i) (nth H (i + 1)) p
  turn : ∀ i, 0 < cr (nth H i) (nth H (i + 1)) (nth H (i + 2))
  least : ∀ p ∈ L, ¬ lt p (nth H 0)
  first : ∀ i, 0 < i → i < H.length → lt (nth H 0) (nth H i)

theorem IsHull.of_mem {L L' H : List S30} (h : IsHull L H) (e : ∀ p, p ∈ L ↔ p ∈ L') : IsHull L' H where
  three := h.three
  mem v hv := (e v).1 (h.mem v hv)
  left i p hp := h.left i p ((e p).2 hp)
  turn := h.turn
  least p hp := h.least p ((e p).2 hp)
  first := h.first

theorem IsHull.pos {L H : List S30} (h : IsHull L H) : 0 < H.length := by have := h.three; omega
theorem IsHull.nthm {L H : List S30} (h : IsHull L H) (i : Nat) : nth H i ∈ L := h.mem _ (nth_mem H i h.pos)

/-- From a vertex the next one is told by the points alone. -/
theorem next_eq {z a b c b' c' : S30} (h1 : 0 < cr z a b) (h2 : 0 ≤ cr z a b') (h3 : 0 ≤ cr a b b') (h4 : 0 ≤ cr a b' b) (h5 : 0 < cr a b c) (h6 : 0 < cr a b' c') (h7 : 0 ≤ cr b c b') (h8 : 0 ≤ cr b' c' b) : b = b' := by
  have h0 : cr a b b' = 0 := by rw [cr_swap] at h4; omega
  have vx : cr z a b * (b'.f0 - a.f0) = cr z a b' * (b.f0 - a.f0) - cr a b b' * (a.f0 - z.f0) := by unfold cr; grind
  have vy : cr z a b * (b'.f1 - a.f1) = cr z a b' * (b.f1 - a.f1) - cr a b b' * (a.f1 - z.f1) := by unfold cr; grind
  rw [h0, Int.zero_mul, Int.sub_zero] at vx vy
  have hs : 0 < cr z a b' := by
    rcases Int.lt_or_eq_of_le h2 with h | h
    · exact h
    · rw [← h, Int.zero_mul] at vx vy
      have e0 := zero_of_mul h1 vx
      have e1 := zero_of_mul h1 vy
      have : b' = a := ext (by omega) (by omega)
      rw [this, cr_eq] at h6
      omega
  have k1 : cr z a b * cr b c b' = (cr z a b - cr z a b') * cr a b c := by
    have : cr z a b * cr b c b' = (c.f0 - b.f0) * (cr z a b * (b'.f1 - a.f1) - cr z a b * (b.f1 - a.f1)) - (c.f1 - b.f1) * (cr z a b * (b'.f0 - a.f0) - cr z a b * (b.f0 - a.f0)) := by unfold cr; grind
    rw [this, vx, vy]
    generalize cr z a b = s
    generalize cr z a b' = t
    unfold cr
    grind
  have k2 : cr z a b' * cr b' c' b = (cr z a b' - cr z a b) * cr a b' c' := by
    have : cr z a b' * cr b' c' b = (c'.f0 - b'.f0) * (cr z a b' * (b.f1 - a.f1) - cr z a b' * (b'.f1 - a.f1)) - (c'.f1 - b'.f1) * (cr z a b' * (b.f0 - a.f0) - cr z a b' * (b'.f0 - a.f0)) := by unfold cr; grind
    rw [this, ← vx, ← vy]
    generalize cr z a b = s
    generalize cr z a b' = t
    unfold cr
    grind
  have l1 : cr z a b' ≤ cr z a b := by
    have : 0 ≤ (cr z a b - cr z a b') * cr a b c := by rw [← k1]; exact Int.mul_nonneg (Int.le_of_lt h1) h7
    rw [Int.mul_comm] at this
    have := nonneg_of_mul h5 this
    omega
  have l2 : cr z a b ≤ cr z a b' := by
    have : 0 ≤ (cr z a b' - cr z a b) * cr a b' c' := by rw [← k2]; exact Int.mul_nonneg (Int.le_of_lt hs) h8
    rw [Int.mul_comm] at this
    have := nonneg_of_mul h6 this
    omega
  have l3 : cr z a b' = cr z a b := by omega
  rw [l3] at vx vy
  have e0 := Int.eq_of_mul_eq_mul_left (by omega) vx
  have e1 := Int.eq_of_mul_eq_mul_left (by omega) vy
  exact ext (by omega) (by omega)

theorem IsHull.prev_turn {L H : List S30} (h : IsHull L H) (i : Nat) : 0 < cr (nth H (i + (H.length - 1))) (nth H i) (nth H (i + 1)) := by
  have := h.turn (i + (H.length - 1))
  have e := h.pos
  rwa [show i + (H.length - 1) + 1 = i + H.length by omega, show i + (H.length - 1) + 2 = i + 1 + H.length by omega, nth_add, nth_add] at this
theorem IsHull.prev_left {L H : List S30} (h : IsHull L H) (i : Nat) (p : S30) (hp : p ∈ L) : 0 ≤ cr (nth H (i + (H.length - 1))) (nth H i) p := by
  have := h.left (i + (H.length - 1)) p hp
  have e := h.pos
  rwa [show i + (H.length - 1) + 1 = i + H.length by omega, nth_add] at this

theorem IsHull.step {L H K : List S30} (h : IsHull L H) (k : IsHull L K) (i j : Nat) (e : nth H i = nth K j) : nth H (i + 1) = nth K (j + 1) := by
  have t := h.prev_turn i
  have l := h.prev_left i (nth K (j + 1)) (k.nthm _)
  have h3 := h.left i (nth K (j + 1)) (k.nthm _)
  have h4 := k.left j (nth H (i + 1)) (h.nthm _)
  have h5 := h.turn i
  have h6 := k.turn j
  have h7 := h.left (i + 1) (nth K (j + 1)) (k.nthm _)
  have h8 := k.left (j + 1) (nth H (i + 1)) (h.nthm _)
  rw [← e] at h4 h6
  exact next_eq t l h3 h4 h5 h6 h7 h8

/-- THERE IS ONE HULL AT MOST. -/
theorem IsHull.unique {L H K : List S30} (h : IsHull L H) (k : IsHull L K) : H = K := by
  have e0 : nth H 0 = nth K 0 := eq_of_not_lt (k.least _ (h.nthm 0)) (h.least _ (k.nthm 0))
  have e : ∀ i, nth H i = nth K i := by
    intro i
    induction i with
    | zero => exact e0
    | succ i ih => exact h.step k i i ih
  have hl : H.length = K.length := by
    rcases Nat.lt_trichotomy H.length K.length with hlt | heq | hlt
    · have := k.first H.length h.pos hlt
      rw [← e H.length, nth_len, e0] at this
      exact absurd this (lt_irrefl _)
    · exact heq
    · have := h.first K.length k.pos hlt
      rw [e K.length, nth_len, e0] at this
      exact absurd this (lt_irrefl _)
  apply List.ext_getElem hl
  intro i h1 h2
  have := e i
  rwa [nth_lt H i h1, nth_lt K i h2] at this

theorem IsHull.inj {L H : List S30} (h : IsHull L H) {i j : Nat} (hi : i < H.length) (hj : j < H.length) (e : nth H i = nth H j) : i = j := by
  have go : ∀ i j, i < j → j < H.length → nth H i = nth H j → False := by
    intro i j hij hj e
    have hs : ∀ t, nth H (i + t) = nth H (j + t) := by
      intro t
      induction t with
      | zero => exact e
      | succ t ih => exact h.step h (i + t) (j + t) ih
    have := hs (H.length - j)
    rw [show j + (H.length - j) = H.length by omega, nth_len] at this
    have h2 := h.first (i + (H.length - j)) (by omega) (by omega)
    rw [this] at h2
    exact lt_irrefl _ h2
  rcases Nat.lt_trichotomy i j with hlt | heq | hlt
  · exact absurd e (fun e => go i j hlt hj e)
  · exact heq
  · exact absurd e.symm (fun e => go j i hlt hi e)
theorem IsHull.nodup {L H : List S30} (h : IsHull L H) : H.Nodup := by
  unfold List.Nodup
  rw [List.pairwise_iff_getElem]
  intro i j hi hj hij e
  rw [← nth_lt H i hi, ← nth_lt H j hj] at e
  have := h.inj hi hj e
  omega

/-- A point is told by the two sides at a vertex. -/
theorem cone (z v n p : S30) (dx dy : Int) : cr z v n * (dx * (p.f0 - v.f0) + dy * (p.f1 - v.f1)) = cr z v p * (dx * (n.f0 - v.f0) + dy * (n.f1 - v.f1)) + cr v n p * (dx * (z.f0 - v.f0) + dy * (z.f1 - v.f1)) := by unfold cr; grind

/-- the greatest of a list in a direction -/
theorem exists_max (dx dy : Int) : ∀ (H : List S30), H ≠ [] → ∃ v ∈ H, ∀ u ∈ H, dx * u.f0 + dy * u.f1 ≤ dx * v.f0 + dy * v.f1
  | [], h => absurd rfl h
  | [v], _ => ⟨v, by simp, fun u hu => by simp at hu; subst hu; exact Int.le_refl _⟩
  | v :: x :: r, _ => by
    obtain ⟨m, hm, hmax⟩ := exists_max dx dy (x :: r) (by simp)
    by_cases h : dx * v.f0 + dy * v.f1 ≤ dx * m.f0 + dy * m.f1
    · refine ⟨m, List.mem_cons_of_mem _ hm, fun u hu => ?_⟩
      rcases List.mem_cons.1 hu with rfl | hu
      · exact h
      · exact hmax u hu
    · refine ⟨v, by simp, fun u hu => ?_⟩
      rcases List.mem_cons.1 hu with rfl | hu
      · exact Int.le_refl _
      · have := hmax u hu
        omega

/-- The greatest value in a direction is a vertex's. -/
theorem IsHull.support {L H : List S30} (h : IsHull L H) (dx dy : Int) : ∃ v ∈ H, ∀ p ∈ L, dx * p.f0 + dy * p.f1 ≤ dx * v.f0 + dy * v.f1 := by
  obtain ⟨v, hv, hmax⟩ := exists_max dx dy H (by intro e; have := h.three; rw [e] at this; simp at this)
  refine ⟨v, hv, fun p hp => ?_⟩
  obtain ⟨i, hi, rfl⟩ := mem_nth hv
  have t := h.prev_turn i
  have l1 := h.prev_left i p hp
  have l2 := h.left i p hp
  have m1 := hmax _ (nth_mem H (i + 1) h.pos)
  have m2 := hmax _ (nth_mem H (i + (H.length - 1)) h.pos)
  have c := cone (nth H (i + (H.length - 1))) (nth H i) (nth H (i + 1)) p dx dy
  generalize nth H (i + (H.length - 1)) = z at *
  generalize nth H (i + 1) = n at *
  generalize nth H i = v at *
  have a1 : dx * (n.f0 - v.f0) + dy * (n.f1 - v.f1) ≤ 0 := by rw [Int.mul_sub, Int.mul_sub]; omega
  have a2 : dx * (z.f0 - v.f0) + dy * (z.f1 - v.f1) ≤ 0 := by rw [Int.mul_sub, Int.mul_sub]; omega
  have b1 := Int.mul_nonpos_of_nonneg_of_nonpos l1 a1
  have b2 := Int.mul_nonpos_of_nonneg_of_nonpos l2 a2
  have : cr z v n * (dx * (p.f0 - v.f0) + dy * (p.f1 - v.f1)) ≤ 0 := by omega
  have := nonpos_of_mul t this
  rw [Int.mul_sub, Int.mul_sub] at this
  omega
end Go.Proofs.Ytlnigbhimdphoaa.Geo
end

section
namespace Go.Proofs.Ytlnigbhimdphoaa.Geo
open Go.Proofs.Ytlnigbhimdphoaa.C Go.Proofs.Ytlnigbhimdphoaa.Vec
/-- All points lie on a line. -/
def Coll (L : List S30) : Prop := ∀ p ∈ L, ∀ q ∈ L, ∀ r ∈ L, cr p q r = 0
def mabs (a : Int) : Int := if a < -a then -a else a
theorem mabs_nonneg (a : Int) : 0 ≤ mabs a := by unfold mabs; split <;> omega
theorem mabs_mul (k a : Int) (hk : 0 < k) : mabs (k * a) = k * mabs a := by
  unfold mabs
  by_cases h : a < -a
  · rw [if_pos h, if_pos, Int.mul_neg]
    have : k * a < 0 := Int.mul_neg_of_pos_of_neg hk (by omega)
    omega
  · rw [if_neg h, if_neg]
    have : 0 ≤ k * a := Int.mul_nonneg (Int.le_of_lt hk) (by omega)
    omega
/-- The sum of the absolute differences. -/
def dist (a b : S30) : Int := mabs (b.f0 - a.f0) + mabs (b.f1 - a.f1)
theorem mabs_eq_zero {a : Int} (h : mabs a = 0) : a = 0 := by unfold mabs at h; split at h <;> omega
theorem dist_pos {a b : S30} (h : b ≠ a) : 0 < dist a b := by
  have h0 := mabs_nonneg (b.f0 - a.f0)
  have h1 := mabs_nonneg (b.f1 - a.f1)
  unfold dist
  apply Int.not_le.1
  intro h2
  have e0 := mabs_eq_zero (show mabs (b.f0 - a.f0) = 0 by omega)
  have e1 := mabs_eq_zero (show mabs (b.f1 - a.f1) = 0 by omega)
  exact h (ext (by omega) (by omega))

/-- The scalar product of the ways from a to b and from b to p. -/
def dt (a b p : S30) : Int := (b.f0 - a.f0) * (p.f0 - b.f0) + (b.f1 - a.f1) * (p.f1 - b.f1)
/-- a is a corner of the points: they lie within a half plane at a that is open on one side. -/
def Ext (L : List S30) (a : S30) : Prop := ∃ dx dy : Int, ∀ p ∈ L, p ≠ a → H dx dy (p.f0 - a.f0) (p.f1 - a.f1)
/-- b is the corner behind a. -/
structure Next (L : List S30) (a b : S30) : Prop where
  mem : b ∈ L
  ne : b ≠ a
  left : ∀ p ∈ L, 0 ≤ cr a b p
  far : ∀ p ∈ L, cr a b p = 0 → p ≠ b → dt a b p < 0

theorem sq_pos {a b : S30} (h : b ≠ a) : 0 < (b.f0 - a.f0) * (b.f0 - a.f0) + (b.f1 - a.f1) * (b.f1 - a.f1) := by
  have h0 := sq_nonneg (b.f0 - a.f0)
  have h1 := sq_nonneg (b.f1 - a.f1)
  apply Int.not_le.1
  intro h2
  have e0 : (b.f0 - a.f0) * (b.f0 - a.f0) = 0 := by omega
  have e1 : (b.f1 - a.f1) * (b.f1 - a.f1) = 0 := by omega
  have e0 : b.f0 - a.f0 = 0 := by rcases Int.mul_eq_zero.1 e0 with h | h <;> exact h
  have e1 : b.f1 - a.f1 = 0 := by rcases Int.mul_eq_zero.1 e1 with h | h <;> exact h
  exact h (ext (by omega) (by omega))

theorem Next.ext {L : List S30} {a b : S30} (h : Next L a b) : Ext L b := by
  refine ⟨b.f0 - a.f0, b.f1 - a.f1, fun p hp hne => ?_⟩
  have l := h.left p hp
  have e : (b.f0 - a.f0) * (p.f1 - b.f1) - (b.f1 - a.f1) * (p.f0 - b.f0) = cr a b p := by unfold cr; grind
  unfold H
  rw [e]
  rcases Int.lt_or_eq_of_le l with h1 | h1
  · exact .inl h1
  · exact .inr ⟨h1.symm, h.far p hp h1.symm hne⟩

/-- What the walk round a takes at each point. -/
def better (a next p : S30) : Bool := decide (p.f0 ≠ a.f0 ∨ p.f1 ≠ a.f1) && (decide (next.f0 = a.f0 ∧ next.f1 = a.f1) || decide (cr a next p < 0) || (decide (cr a next p = 0) && decide (dist a next < dist a p)))
def pick (a : S30) (L : List S30) : S30 := L.foldl (fun n p => if better a n p then p else n) a

theorem eq_iff {a b : S30} : a = b ↔ (a.f0 = b.f0 ∧ a.f1 = b.f1) := ⟨fun h => by subst h; exact ⟨rfl, rfl⟩, fun h => Geo.ext h.1 h.2⟩

/-- what is known behind some points -/
def Seen (a n : S30) (pre : List S30) : Prop := (n = a ∧ ∀ p ∈ pre, p = a) ∨ (n ∈ pre ∧ n ≠ a ∧ ∀ p ∈ pre, p ≠ a → 0 ≤ cr a n p ∧ (cr a n p = 0 → dist a p ≤ dist a n))

theorem seen_step {L : List S30} {a n p : S30} {pre : List S30} (hE : Ext L a) (hpre : ∀ q ∈ pre, q ∈ L) (hp : p ∈ L) (h : Seen a n pre) : Seen a (if better a n p then p else n) (pre ++ [p]) := by
  obtain ⟨dx, dy, hd⟩ := hE
  by_cases hpa : p = a
  · have hb : better a n p = false := by unfold better; simp [eq_iff.1 hpa]
    rw [hb]
    rcases h with ⟨h1, h2⟩ | ⟨h1, h2, h3⟩
    · refine .inl ⟨by simpa using h1, fun q hq => ?_⟩
      rcases List.mem_append.1 hq with hq | hq
      · exact h2 q hq
      · simp at hq; rw [hq]; exact hpa
    · refine .inr ⟨by simp [h1], by simpa using h2, fun q hq hqa => ?_⟩
      rcases List.mem_append.1 hq with hq | hq
      · simpa using h3 q hq hqa
      · simp at hq; exact absurd (hq.trans hpa) hqa
  · have hpa' : (p.f0 ≠ a.f0 ∨ p.f1 ≠ a.f1) := by
      rw [eq_iff] at hpa
      omega
    rcases h with ⟨rfl, h2⟩ | ⟨h1, h2, h3⟩
    · have hb : better n n p = true := by unfold better; simp; omega
      rw [hb]
      refine .inr ⟨by simp, by simpa using hpa, fun q hq hqa => ?_⟩
      rcases List.mem_append.1 hq with hq | hq
      · exact absurd (h2 q hq) hqa
      · simp at hq; subst hq; simp [cr_self]
    · have hna : ¬ (n.f0 = a.f0 ∧ n.f1 = a.f1) := fun e => h2 (eq_iff.2 e)
      have hn := hd n (hpre n h1) h2
      have hpH := hd p hp hpa
      have ecr : ∀ x y : S30, (x.f0 - a.f0) * (y.f1 - a.f1) - (x.f1 - a.f1) * (y.f0 - a.f0) = cr a x y := fun x y => rfl
      by_cases c1 : cr a n p < 0
      · have hb : better a n p = true := by unfold better; simp [c1]; omega
        rw [hb]
        refine .inr ⟨by simp, by simpa using hpa, fun q hq hqa => ?_⟩
        rcases List.mem_append.1 hq with hq | hq
        · have h4 := (h3 q hq hqa).1
          have hq' := hd q (hpre q hq) hqa
          have s := cr_swap a n p
          have := H.trans_lt hpH hn hq' (by rw [ecr]; omega) (by rw [ecr]; exact h4) (.inl (by rw [ecr]; omega))
          rw [ecr] at this
          simp only [if_true]
          exact ⟨by omega, fun e => by omega⟩
        · simp at hq; subst hq; simp [cr_self]
      · by_cases c2 : cr a n p = 0 ∧ dist a n < dist a p
        · have hb : better a n p = true := by unfold better; simp [c2.1, c2.2]; omega
          rw [hb]
          refine .inr ⟨by simp, by simpa using hpa, fun q hq hqa => ?_⟩
          rcases List.mem_append.1 hq with hq | hq
          · obtain ⟨h4, h5⟩ := h3 q hq hqa
            have hq' := hd q (hpre q hq) hqa
            have s := cr_swap a n p
            have t1 := H.trans hpH hn hq' (by rw [ecr]; omega) (by rw [ecr]; exact h4)
            rw [ecr] at t1
            simp only [if_true]
            refine ⟨t1, fun e => ?_⟩
            rcases Int.lt_or_eq_of_le h4 with h6 | h6
            · have := H.trans_lt hpH hn hq' (by rw [ecr]; omega) (by rw [ecr]; exact h4) (.inr (by rw [ecr]; exact h6))
              rw [ecr] at this
              omega
            · have := h5 h6.symm
              omega
          · simp at hq; subst hq; simp [cr_self]
        · have hb : better a n p = false := by
            unfold better
            simp only [Bool.and_eq_false_iff, Bool.or_eq_false_iff, decide_eq_false_iff_not]
            refine .inr ⟨⟨hna, c1⟩, ?_⟩
            by_cases c3 : cr a n p = 0
            · exact .inr (fun h => c2 ⟨c3, h⟩)
            · exact .inl c3
          rw [hb]
          simp only [Bool.false_eq_true, if_false]
          refine .inr ⟨by simp [h1], h2, fun q hq hqa => ?_⟩
          rcases List.mem_append.1 hq with hq | hq
          · exact h3 q hq hqa
          · simp at hq
            subst hq
            exact ⟨by omega, fun e => by
              have : ¬ dist a n < dist a q := fun h => c2 ⟨e, h⟩
              omega⟩

theorem seen_all {L : List S30} {a : S30} (hE : Ext L a) : ∀ (rest pre : List S30) (n : S30), (∀ q ∈ pre, q ∈ L) → (∀ q ∈ rest, q ∈ L) → Seen a n pre → Seen a (rest.foldl (fun n p => if better a n p then p else n) n) (pre ++ rest)
  | [], pre, n, _, _, h => by simpa using h
  | p :: r, pre, n, h1, h2, h => by
    have := seen_all hE r (pre ++ [p]) _ (fun q hq => by
      rcases List.mem_append.1 hq with hq | hq
      · exact h1 q hq
      · simp at hq; subst hq; exact h2 _ (by simp)) (fun q hq => h2 q (List.mem_cons_of_mem _ hq)) (seen_step hE h1 (h2 p (by simp)) h)
    simpa using this

theorem pick_seen {L : List S30} {a : S30} (hE : Ext L a) : Seen a (pick a L) L := by
  have := seen_all hE L [] a (by simp) (by simp) (.inl ⟨rfl, by simp⟩)
  rw [List.nil_append] at this
  exact this
theorem pick_same {L : List S30} {a : S30} (hE : Ext L a) (h : pick a L = a) : ∀ p ∈ L, p = a := by
  rcases pick_seen hE with ⟨_, h2⟩ | ⟨_, h2, _⟩
  · exact h2
  · exact absurd h h2
theorem pick_next {L : List S30} {a : S30} (hE : Ext L a) (h : pick a L ≠ a) : Next L a (pick a L) := by
  rcases pick_seen hE with ⟨h1, _⟩ | ⟨h1, h2, h3⟩
  · exact absurd h1 h
  · generalize pick a L = b at *
    refine ⟨h1, h2, fun p hp => ?_, fun p hp h0 hne => ?_⟩
    · by_cases e : p = a
      · rw [e, cr_self']; exact Int.le_refl _
      · exact (h3 p hp e).1
    · have hs := sq_pos h2
      have hs2 : (b.f0 - a.f0) * (b.f0 - a.f0) + (b.f1 - a.f1) * (b.f1 - a.f1) = -(dt a b a) := by unfold dt; grind
      by_cases e : p = a
      · rw [e]
        omega
      · have hd := (h3 p hp e).2 h0
        obtain ⟨dx, dy, hE⟩ := hE
        have hw := H.same_way (hE b h1 h2) (hE p hp e) h0
        -- s (p - a) = t (b - a)
        generalize hS : (b.f0 - a.f0) * (b.f0 - a.f0) + (b.f1 - a.f1) * (b.f1 - a.f1) = s at *
        generalize hT : (b.f0 - a.f0) * (p.f0 - a.f0) + (b.f1 - a.f1) * (p.f1 - a.f1) = t at *
        have e0 : s * (p.f0 - a.f0) = t * (b.f0 - a.f0) - cr a b p * (b.f1 - a.f1) := by rw [← hS, ← hT]; unfold cr; grind
        have e1 : s * (p.f1 - a.f1) = t * (b.f1 - a.f1) + cr a b p * (b.f0 - a.f0) := by rw [← hS, ← hT]; unfold cr; grind
        rw [h0, Int.zero_mul] at e0 e1
        rw [Int.sub_zero] at e0
        rw [Int.add_zero] at e1
        have hdp := dist_pos h2
        have hD : s * dist a p = t * dist a b := by
          unfold dist
          rw [Int.mul_add, Int.mul_add, ← mabs_mul _ _ hs, ← mabs_mul _ _ hs, ← mabs_mul _ _ hw, ← mabs_mul _ _ hw, e0, e1]
        have hts : t ≤ s := by
          have h5 : s * dist a p ≤ s * dist a b := Int.mul_le_mul_of_nonneg_left hd (Int.le_of_lt hs)
          rw [hD] at h5
          exact Int.le_of_mul_le_mul_right h5 hdp
        have hdt : dt a b p = t - s := by rw [← hS, ← hT]; unfold dt; grind
        rw [hdt]
        rcases Int.lt_or_eq_of_le hts with h6 | h6
        · omega
        · exfalso
          rw [h6] at e0 e1
          have f0 := Int.eq_of_mul_eq_mul_left (by omega) e0
          have f1 := Int.eq_of_mul_eq_mul_left (by omega) e1
          exact hne (Geo.ext (by omega) (by omega))

/-- A corner has one corner ahead of it at most. -/
theorem Next.inj {L : List S30} {a a' b : S30} (hE : Ext L a) (hE' : Ext L a') (ha : a ∈ L) (ha' : a' ∈ L) (h : Next L a b) (h' : Next L a' b) : a = a' := by
  apply Classical.byContradiction
  intro hne
  have l1 := h.left a' ha'
  have l2 := h'.left a ha
  have s : cr a' b a = - cr a b a' := by unfold cr; grind
  have z : cr a b a' = 0 := by omega
  have nb : a' ≠ b := fun e => h'.ne e.symm
  have nb' : a ≠ b := fun e => h.ne e.symm
  have f1 := h.far a' ha' z nb
  have f2 := h'.far a ha (by omega) nb'
  obtain ⟨dx, dy, hd⟩ := hE
  obtain ⟨ex, ey, he⟩ := hE'
  have g1 := hd b h.mem h.ne
  have g2 := hd a' ha' (Ne.symm hne)
  have g3 := he b h'.mem h'.ne
  have g4 := he a ha hne
  have hs := sq_pos (a := b) (b := a) nb'
  generalize hS : (a.f0 - b.f0) * (a.f0 - b.f0) + (a.f1 - b.f1) * (a.f1 - b.f1) = s at *
  have ht : 0 < (a.f0 - b.f0) * (a'.f0 - b.f0) + (a.f1 - b.f1) * (a'.f1 - b.f1) := by
    have e : (a.f0 - b.f0) * (a'.f0 - b.f0) + (a.f1 - b.f1) * (a'.f1 - b.f1) = -(dt a b a') := by unfold dt; grind
    omega
  generalize hT : (a.f0 - b.f0) * (a'.f0 - b.f0) + (a.f1 - b.f1) * (a'.f1 - b.f1) = t at *
  have e0 : s * (a'.f0 - b.f0) = t * (a.f0 - b.f0) + cr a b a' * (a.f1 - b.f1) := by rw [← hS, ← hT]; unfold cr; grind
  have e1 : s * (a'.f1 - b.f1) = t * (a.f1 - b.f1) - cr a b a' * (a.f0 - b.f0) := by rw [← hS, ← hT]; unfold cr; grind
  rw [z, Int.zero_mul] at e0 e1
  rw [Int.add_zero] at e0
  rw [Int.sub_zero] at e1
  rcases Int.lt_trichotomy t s with hlt | heq | hlt
  · -- at a': b and a lie on opposite sides
    have k1 : H ex ey (s * (b.f0 - a'.f0)) (s * (b.f1 - a'.f1)) := (H.scale hs).2 g3
    have k2 : H ex ey (s * (a.f0 - a'.f0)) (s * (a.f1 - a'.f1)) := (H.scale hs).2 g4
    have x0 : s * (b.f0 - a'.f0) = t * (-(a.f0 - b.f0)) := by grind
    have x1 : s * (b.f1 - a'.f1) = t * (-(a.f1 - b.f1)) := by grind
    have y0 : s * (a.f0 - a'.f0) = (s - t) * (a.f0 - b.f0) := by grind
    have y1 : s * (a.f1 - a'.f1) = (s - t) * (a.f1 - b.f1) := by grind
    rw [x0, x1] at k1
    rw [y0, y1] at k2
    exact H.no_opp ((H.scale (by omega)).1 k2) ((H.scale ht).1 k1)
  · rw [heq] at e0 e1
    have f0 := Int.eq_of_mul_eq_mul_left (by omega) e0
    have f1 := Int.eq_of_mul_eq_mul_left (by omega) e1
    exact hne (Geo.ext (by omega) (by omega))
  · have k2 : H dx dy (s * (a'.f0 - a.f0)) (s * (a'.f1 - a.f1)) := (H.scale hs).2 g2
    have y0 : s * (a'.f0 - a.f0) = (t - s) * (a.f0 - b.f0) := by grind
    have y1 : s * (a'.f1 - a.f1) = (t - s) * (a.f1 - b.f1) := by grind
    rw [y0, y1] at k2
    have k3 := (H.scale (by omega)).1 k2
    have g1' : H dx dy (-(a.f0 - b.f0)) (-(a.f1 - b.f1)) := by
      rw [show -(a.f0 - b.f0) = b.f0 - a.f0 by omega, show -(a.f1 - b.f1) = b.f1 - a.f1 by omega]
      exact g1
    exact H.no_opp k3 g1'

theorem coll_of_line {L : List S30} {a b : S30} (hne : b ≠ a) (h : ∀ p ∈ L, cr a b p = 0) : Coll L := by
  intro p hp q hq r hr
  have hs := sq_pos hne
  have h1 := h p hp
  have h2 := h q hq
  have h3 := h r hr
  have u1 : (b.f0 - a.f0) * (q.f1 - p.f1) - (b.f1 - a.f1) * (q.f0 - p.f0) = 0 := by
    have : (b.f0 - a.f0) * (q.f1 - p.f1) - (b.f1 - a.f1) * (q.f0 - p.f0) = cr a b q - cr a b p := by unfold cr; grind
    omega
  have u2 : (b.f0 - a.f0) * (r.f1 - p.f1) - (b.f1 - a.f1) * (r.f0 - p.f0) = 0 := by
    have : (b.f0 - a.f0) * (r.f1 - p.f1) - (b.f1 - a.f1) * (r.f0 - p.f0) = cr a b r - cr a b p := by unfold cr; grind
    omega
  apply zero_of_mul hs
  have e : ((b.f0 - a.f0) * (b.f0 - a.f0) + (b.f1 - a.f1) * (b.f1 - a.f1)) * cr p q r = ((b.f0 - a.f0) * (q.f0 - p.f0) + (b.f1 - a.f1) * (q.f1 - p.f1)) * ((b.f0 - a.f0) * (r.f1 - p.f1) - (b.f1 - a.f1) * (r.f0 - p.f0)) - ((b.f0 - a.f0) * (q.f1 - p.f1) - (b.f1 - a.f1) * (q.f0 - p.f0)) * ((b.f0 - a.f0) * (r.f0 - p.f0) + (b.f1 - a.f1) * (r.f1 - p.f1)) := by unfold cr; grind
  rw [e, u1, u2]
  simp

/-- Where a side follows a side and the points do not lie on a line, it turns to the left. -/
theorem turn_of {L : List S30} {a b c : S30} (hL : ¬ Coll L) (hba : b ≠ a) (hc : c ∈ L) (l1 : ∀ p ∈ L, 0 ≤ cr a b p) (l2 : ∀ p ∈ L, 0 ≤ cr b c p) (hback : cr a b c = 0 → dt a b c < 0) : 0 < cr a b c := by
  rcases Int.lt_or_eq_of_le (l1 c hc) with h | h
  · exact h
  · exfalso
    apply hL
    apply coll_of_line hba
    intro p hp
    have hd := hback h.symm
    have hs := sq_pos hba
    have e : ((b.f0 - a.f0) * (b.f0 - a.f0) + (b.f1 - a.f1) * (b.f1 - a.f1)) * cr b c p = dt a b c * cr a b p - cr a b c * ((b.f0 - a.f0) * (p.f0 - b.f0) + (b.f1 - a.f1) * (p.f1 - b.f1)) := by unfold cr dt; grind
    rw [← h, Int.zero_mul, Int.sub_zero] at e
    have h1 := Int.mul_nonneg (Int.le_of_lt hs) (l2 p hp)
    rcases Int.lt_or_eq_of_le (l1 p hp) with h2 | h2
    · have := Int.mul_neg_of_neg_of_pos hd h2
      omega
    · exact h2.symm
theorem Next.turn {L : List S30} {a b c : S30} (hL : ¬ Coll L) (h1 : Next L a b) (h2 : Next L b c) : 0 < cr a b c :=
  turn_of hL h1.ne h2.mem h1.left h2.left (fun h => h1.far c h2.mem h h2.ne)

def go (L : List S30) (v : S30) : Nat → S30 → List S30 → List S30
  | 0, _, out => out
  | n + 1, a, out => if (pick a L).f0 = v.f0 ∧ (pick a L).f1 = v.f1 then out else if (pick a L).f0 = a.f0 ∧ (pick a L).f1 = a.f1 then out else go L v n (pick a L) (out ++ [pick a L])
def wrapFrom (v : S30) (L : List S30) : List S30 := go L v L.length v [v]

theorem nodup_len {l m : List S30} (hn : l.Nodup) (hs : ∀ x ∈ l, x ∈ m) : l.length ≤ m.length := by
  classical
  induction l generalizing m with
  | nil => simp
  | cons x r ih =>
    rw [List.nodup_cons] at hn
    have hx := hs x (by simp)
    have := ih (m := m.erase x) hn.2 (fun y hy => by
      have hne : y ≠ x := fun e => hn.1 (e ▸ hy)
      exact (List.mem_erase_of_ne hne).2 (hs y (List.mem_cons_of_mem _ hy)))
    rw [List.length_erase_of_mem hx] at this
    have hp := List.length_pos_of_mem hx
    simp only [List.length_cons]
    omega

theorem nodup_inj {l : List S30} (h : l.Nodup) {i j : Nat} (hi : i < l.length) (hj : j < l.length) (e : l[i] = l[j]) : i = j := by
  unfold List.Nodup at h
  rw [List.pairwise_iff_getElem] at h
  rcases Nat.lt_trichotomy i j with hlt | heq | hlt
  · exact absurd e (h i j hi hj hlt)
  · exact heq
  · exact absurd e.symm (h j i hj hi hlt)

theorem least_ext {L : List S30} {v : S30} (h : ∀ p ∈ L, ¬ lt p v) : Ext L v := by
  refine ⟨0, -1, fun p hp hne => ?_⟩
  have h1 := h p hp
  have h2 : lt v p := by
    rcases lt_tri v p with h | h | h
    · exact h
    · exact absurd h.symm hne
    · exact absurd h h1
  unfold H
  unfold lt at h2
  omega

/-- the walk so far -/
structure Walk (L : List S30) (v a : S30) (out : List S30) : Prop where
  pos : 0 < out.length
  head : out[0]? = some v
  last : out[out.length - 1]? = some a
  nodup : out.Nodup
  mem : ∀ x ∈ out, x ∈ L
  ext : ∀ x ∈ out, Ext L x
  next : ∀ (i : Nat) (x y : S30), out[i]? = some x → out[i + 1]? = some y → Next L x y

theorem Walk.start {L : List S30} {v : S30} (hv : v ∈ L) (hE : Ext L v) : Walk L v v [v] where
  pos := by simp
  head := by simp
  last := by simp
  nodup := by simp
  mem := by simp [hv]
  ext := by simp [hE]
  next := fun i x y _ h => by simp at h

theorem Walk.grow {L : List S30} {v a b : S30} {out : List S30} (h : Walk L v a out) (hb : Next L a b) (hne : b ≠ v) : Walk L v b (out ++ [b]) := by
  have ha : a ∈ out := List.mem_iff_getElem?.2 ⟨_, h.last⟩
  have hnot : b ∉ out := by
    intro hm
    obtain ⟨j, hj⟩ := List.mem_iff_getElem?.1 hm
    have hjl := (List.getElem?_eq_some_iff.1 hj).1
    cases j with
    | zero =>
      rw [h.head] at hj
      injection hj with hj
      exact hne hj.symm
    | succ j =>
      have hlt : j < out.length := by omega
      have hx := List.getElem?_eq_getElem hlt
      have hn := h.next j _ _ hx hj
      have hmem : out[j] ∈ out := List.getElem_mem hlt
      have e := Next.inj (h.ext _ hmem) (h.ext a ha) (h.mem _ hmem) (h.mem a ha) hn hb
      have hl := h.last
      rw [List.getElem?_eq_getElem (show out.length - 1 < out.length by omega)] at hl
      injection hl with hl
      rw [← hl] at e
      have := nodup_inj h.nodup _ _ e
      omega
  refine ⟨by simp, ?_, ?_, ?_, ?_, ?_, ?_⟩
  · rw [List.getElem?_append_left h.pos]; exact h.head
  · simp
  · rw [List.nodup_append]
    exact ⟨h.nodup, by simp, fun x hx y hy e => by simp at hy; subst hy; subst e; exact hnot hx⟩
  · intro x hx
    rcases List.mem_append.1 hx with hx | hx
    · exact h.mem x hx
    · simp at hx; subst hx; exact hb.mem
  · intro x hx
    rcases List.mem_append.1 hx with hx | hx
    · exact h.ext x hx
    · simp at hx; subst hx; exact hb.ext
  · intro i x y hx hy
    by_cases c : i + 1 < out.length
    · rw [List.getElem?_append_left (by omega)] at hx
      rw [List.getElem?_append_left c] at hy
      exact h.next i x y hx hy
    · have hp := h.pos
      have hi2 := (List.getElem?_eq_some_iff.1 hy).1
      simp only [List.length_append, List.length_cons, List.length_nil] at hi2
      have e : i = out.length - 1 := by omega
      rw [List.getElem?_append_left (by omega), e, h.last] at hx
      injection hx with hx
      rw [List.getElem?_append_right (by omega), show i + 1 - out.length = 0 by omega] at hy
      simp at hy
      rw [← hx, ← hy]
      exact hb

/-- the walk closes -/
theorem go_closes {L : List S30} {v : S30} (hne : ∀ a ∈ L, ∃ p ∈ L, p ≠ a) : ∀ (n : Nat) (a : S30) (out : List S30), Walk L v a out → out.length + n = L.length + 1 → ∃ a' out', go L v n a out = out' ∧ Walk L v a' out' ∧ Next L a' v
  | 0, a, out, h, hl => by
    have := nodup_len h.nodup h.mem
    omega
  | n + 1, a, out, h, hl => by
    have ha : a ∈ out := List.mem_iff_getElem?.2 ⟨_, h.last⟩
    have hp : pick a L ≠ a := by
      intro e
      obtain ⟨p, hp, hpa⟩ := hne a (h.mem a ha)
      exact hpa (pick_same (h.ext a ha) e p hp)
    have hn := pick_next (h.ext a ha) hp
    have hpf : ¬ ((pick a L).f0 = a.f0 ∧ (pick a L).f1 = a.f1) := fun e => hp (eq_iff.2 e)
    unfold go
    by_cases hv : (pick a L).f0 = v.f0 ∧ (pick a L).f1 = v.f1
    · rw [if_pos hv]
      rw [eq_iff.2 hv] at hn
      exact ⟨a, out, rfl, h, hn⟩
    · rw [if_neg hv, if_neg hpf]
      exact go_closes hne n _ _ (h.grow hn (fun e => hv (eq_iff.1 e))) (by simp; omega)

theorem not_coll_two {L : List S30} (h : ¬ Coll L) (a : S30) : ∃ p ∈ L, p ≠ a := by
  apply Classical.byContradiction
  intro hn
  apply h
  have : ∀ p ∈ L, p = a := fun p hp => Classical.byContradiction fun e => hn ⟨p, hp, e⟩
  intro p hp q hq r hr
  rw [this p hp, this q hq, cr_eq]

/-- GIFT WRAPPING GIVES THE HULL. -/
theorem wrap_hull {L : List S30} {v : S30} (hv : v ∈ L) (hl : ∀ p ∈ L, ¬ lt p v) (hL : ¬ Coll L) : IsHull L (wrapFrom v L) := by
  obtain ⟨a', out, he, hW, hn⟩ := go_closes (v := v) (fun a _ => not_coll_two hL a) L.length v [v] (Walk.start hv (least_ext hl)) (by simp; omega)
  have hw : wrapFrom v L = out := he
  rw [hw]
  have hpos := hW.pos
  have h0 : nth out 0 = v := by
    have := hW.head
    rw [List.getElem?_eq_getElem hpos] at this
    injection this with this
    rw [nth_lt out 0 hpos, this]
  have hstep : ∀ i, Next L (nth out i) (nth out (i + 1)) := by
    intro i
    have hi := Nat.mod_lt i hpos
    rw [← nth_mod out i, ← nth_mod out (i + 1), Nat.add_mod, show (1 % out.length) = 1 % out.length from rfl, ← Nat.add_mod]
    by_cases c : i % out.length + 1 < out.length
    · have e : (i + 1) % out.length = i % out.length + 1 := by rw [Nat.add_mod, Nat.mod_eq_of_lt (show 1 < out.length by omega), Nat.mod_eq_of_lt c]
      rw [e, nth_lt _ _ hi, nth_lt _ _ c]
      exact hW.next _ _ _ (List.getElem?_eq_getElem hi) (List.getElem?_eq_getElem c)
    · have e : i % out.length = out.length - 1 := by omega
      have e2 : (i + 1) % out.length = 0 := by
        have : i + 1 = out.length * (i / out.length + 1) := by
          have := Nat.div_add_mod i out.length
          rw [Nat.mul_add, Nat.mul_one]
          omega
        rw [this, Nat.mul_mod_right]
      have hl := hW.last
      rw [List.getElem?_eq_getElem (show out.length - 1 < out.length by omega)] at hl
      injection hl with hl
      rw [e2, h0, e, nth_lt _ _ (by omega), hl]
      exact hn
  have hturn : ∀ i, 0 < cr (nth out i) (nth out (i + 1)) (nth out (i + 2)) := fun i => Next.turn hL (hstep i) (hstep (i + 1))
  refine ⟨?_, hW.mem, fun i => (hstep i).left, hturn, fun p hp => by rw [h0]; exact hl p hp, fun i hi hil => ?_⟩
  · apply Nat.not_lt.1
    intro h3
    have t := hturn 0
    have : out.length = 1 ∨ out.length = 2 := by omega
    rcases this with h | h
    · have e : nth out 1 = nth out 0 := by rw [← nth_mod out 1, h]
      rw [e, cr_eq] at t
      omega
    · have e : nth out 2 = nth out 0 := by rw [← nth_mod out 2, h]
      rw [e, cr_self'] at t
      omega
  · rw [h0]
    have hm := hW.mem _ (nth_mem out i hpos)
    rcases lt_tri v (nth out i) with h | h | h
    · exact h
    · exfalso
      rw [← h0, nth_lt _ _ hpos, nth_lt _ _ hil] at h
      have := nodup_inj hW.nodup _ _ h
      omega
    · exact absurd h (hl _ hm)

/-- .. and where all lie on a line it gives fewer than three. -/
theorem wrap_line {L : List S30} {v : S30} (hv : v ∈ L) (hl : ∀ p ∈ L, ¬ lt p v) (hL : Coll L) : (wrapFrom v L).length < 3 := by
  have hE := least_ext hl
  unfold wrapFrom
  generalize L.length = n
  cases n with
  | zero => simp [go]
  | succ n =>
    unfold go
    by_cases h1 : (pick v L).f0 = v.f0 ∧ (pick v L).f1 = v.f1
    · rw [if_pos h1]; simp
    · rw [if_neg h1, if_neg h1]
      have hp : pick v L ≠ v := fun e => h1 (eq_iff.1 e)
      have hn := pick_next hE hp
      generalize pick v L = b at *
      cases n with
      | zero => simp [go]
      | succ n =>
        unfold go
        have hpb : pick b L ≠ b := fun e => hp (pick_same hn.ext e v hv).symm
        have hnb := pick_next hn.ext hpb
        have hv2 : pick b L = v := by
          generalize pick b L = c at *
          apply Classical.byContradiction
          intro hne
          have z1 := hL v hv b hn.mem c hnb.mem
          have z2 := hL b hn.mem c hnb.mem v hv
          have f1 := hn.far c hnb.mem z1 hpb
          have f2 := hnb.far v hv z2 (Ne.symm hne)
          obtain ⟨dx, dy, hd⟩ := hE
          have g1 := hd b hn.mem hp
          have g2 := hd c hnb.mem hne
          have w := H.same_way g1 g2 z1
          -- along the line: v at 0, b at s, c at t > 0: t < s, and (0 - t)(t - s) < 0
          have hs := sq_pos hp
          generalize hS : (b.f0 - v.f0) * (b.f0 - v.f0) + (b.f1 - v.f1) * (b.f1 - v.f1) = s at *
          generalize hT : (b.f0 - v.f0) * (c.f0 - v.f0) + (b.f1 - v.f1) * (c.f1 - v.f1) = t at *
          have a1 : dt v b c = t - s := by rw [← hS, ← hT]; unfold dt; grind
          have a2 : s * dt b c v = (t - s) * (0 - t) - cr v b c * cr v b c := by rw [← hS, ← hT]; unfold dt cr; grind
          rw [z1, Int.zero_mul, Int.sub_zero] at a2
          have a3 : s * dt b c v < 0 := Int.mul_neg_of_pos_of_neg hs f2
          have a4 : 0 < (t - s) * (0 - t) := Int.mul_pos_of_neg_of_neg (by omega) (by omega)
          omega
        rw [if_pos (eq_iff.1 hv2)]
        simp
end Go.Proofs.Ytlnigbhimdphoaa.Geo
end

section
namespace Go.Proofs.Ytlnigbhimdphoaa.Geo
open Go.Proofs.Ytlnigbhimdphoaa.C Go.Proofs.Ytlnigbhimdphoaa.Vec
def pop (s : S30) : List S30 → List S30
  | b :: a :: r => if cr a b s ≤ 0 then pop s (a :: r) else b :: a :: r
  | l => l
/-- the chain, its last point first -/
def chainR (l : List S30) : List S30 := l.foldl (fun st s => s :: pop s st) []
def chain (l : List S30) : List S30 := (chainR l).tail.reverse

/-- what a chain is: sorted, all points to the left of its sides, turning strictly to the left -/
def Good (P : List S30) : List S30 → Prop
  | b :: a :: r => lt a b ∧ (∀ p ∈ P, 0 ≤ cr a b p) ∧ (∀ c r', r = c :: r' → 0 < cr c a b) ∧ Good P (a :: r)
  | _ => True

theorem lexH {a b : S30} (h : lt a b) : H 0 (-1) (b.f0 - a.f0) (b.f1 - a.f1) := by unfold H; unfold lt at h; omega

theorem interp {x y p a s : S30} (hxy : lt x y) (h1 : ¬ lt p x) (h2 : ¬ lt y p) (h3 : 0 ≤ cr x y p) (has : lt a s) (fx : 0 ≤ cr a s x) (fy : 0 ≤ cr a s y) : 0 ≤ cr a s p := by
  unfold lt at hxy h1 h2 has
  by_cases w : x.f0 < y.f0
  · have e : (y.f0 - x.f0) * cr a s p = (p.f0 - x.f0) * cr a s y + (y.f0 - p.f0) * cr a s x + (s.f0 - a.f0) * cr x y p := by unfold cr; grind
    apply nonneg_of_mul (show 0 < y.f0 - x.f0 by omega)
    rw [e]
    exact Int.add_nonneg (Int.add_nonneg (Int.mul_nonneg (by omega) fy) (Int.mul_nonneg (by omega) fx)) (Int.mul_nonneg (by omega) h3)
  · have e0 : y.f0 = x.f0 := by omega
    have e1 : p.f0 = x.f0 := by omega
    have e : (y.f1 - x.f1) * cr a s p = (p.f1 - x.f1) * cr a s y + (y.f1 - p.f1) * cr a s x := by unfold cr; rw [e0, e1]; grind
    apply nonneg_of_mul (show 0 < y.f1 - x.f1 by omega)
    rw [e]
    exact Int.add_nonneg (Int.mul_nonneg (by omega) fy) (Int.mul_nonneg (by omega) fx)

theorem lt_of_not {a b c : S30} (h1 : ¬ lt b a) (h2 : lt b c) : lt a c := by unfold lt at *; omega

theorem good_tail {P : List S30} {b : S30} {r : List S30} (h : Good P (b :: r)) : Good P r := by
  cases r with
  | nil => trivial
  | cons a r => exact h.2.2.2
/-- what popping leaves -/
theorem pop_spec {P : List S30} {s : S30} (hs : ∀ p ∈ P, lt p s) : ∀ (r : List S30) (b : S30), Good P (b :: r) → (∀ x ∈ b :: r, x ∈ P) → (∀ p ∈ P, ¬ lt p b → 0 ≤ cr b s p) →
    ∃ b' r', pop s (b :: r) = b' :: r' ∧ Good P (b' :: r') ∧ (∀ x ∈ b' :: r', x ∈ b :: r) ∧ (∀ p ∈ P, ¬ lt p b' → 0 ≤ cr b' s p) ∧ (∀ a r'', r' = a :: r'' → 0 < cr a b' s) ∧ (b' :: r').getLast? = (b :: r).getLast?
  | [], b, hG, hm, hp => ⟨b, [], rfl, hG, fun _ h => h, hp, fun _ _ h => by simp at h, rfl⟩
  | a :: r, b, hG, hm, hp => by
    unfold pop
    by_cases c : cr a b s ≤ 0
    · rw [if_pos c]
      have ha : a ∈ P := hm a (by simp)
      have hb : b ∈ P := hm b (by simp)
      have hfb : 0 ≤ cr a s b := by rw [cr_swap]; omega
      obtain ⟨b', r', e1, e2, e3, e4, e5, e6⟩ := pop_spec hs r a (good_tail hG) (fun x hx => hm x (List.mem_cons_of_mem _ hx)) (fun p hpP hpa => by
        by_cases hpb : lt p b
        · exact interp hG.1 hpa (not_lt_of_lt hpb) (hG.2.1 p hpP) (hs a ha) (by rw [cr_self']; exact Int.le_refl _) hfb
        · exact interp (hs b hb) hpb (not_lt_of_lt (hs p hpP)) (hp p hpP hpb) (hs a ha) hfb (by rw [cr_self]; exact Int.le_refl _))
      exact ⟨b', r', e1, e2, fun x hx => List.mem_cons_of_mem _ (e3 x hx), e4, e5, by rw [e6]; simp⟩
    · rw [if_neg c]
      refine ⟨b, a :: r, rfl, hG, fun _ h => h, hp, fun a' r'' h => ?_, rfl⟩
      injection h with h1 h2
      subst h1
      omega

theorem good_add {P : List S30} {s : S30} : ∀ (r : List S30) (b : S30), Good P (b :: r) → lt b s → (∀ a r', r = a :: r' → 0 < cr a b s) → Good (P ++ [s]) (b :: r)
  | [], _, _, _, _ => trivial
  | a :: r, b, hG, hbs, ht => by
    have h0 := ht a r rfl
    refine ⟨hG.1, fun p hp => ?_, hG.2.2.1, good_add r a (good_tail hG) (lt_trans hG.1 hbs) (fun c r' e => ?_)⟩
    · rcases List.mem_append.1 hp with hp | hp
      · exact hG.2.1 p hp
      · simp at hp; subst hp; omega
    · have h1 := hG.2.2.1 c r' e
      subst e
      have hca : lt c a := hG.2.2.2.1
      have := H.trans_lt (lexH hca) (lexH hG.1) (lexH (lt_trans hG.1 hbs)) (by
        have : (a.f0 - c.f0) * (b.f1 - a.f1) - (a.f1 - c.f1) * (b.f0 - a.f0) = cr c a b := by unfold cr; grind
        omega) (by
        have : (b.f0 - a.f0) * (s.f1 - a.f1) - (b.f1 - a.f1) * (s.f0 - a.f0) = cr a b s := by unfold cr; grind
        omega) (.inl (by
        have : (a.f0 - c.f0) * (b.f1 - a.f1) - (a.f1 - c.f1) * (b.f0 - a.f0) = cr c a b := by unfold cr; grind
        omega))
      have e : (a.f0 - c.f0) * (s.f1 - a.f1) - (a.f1 - c.f1) * (s.f0 - a.f0) = cr c a s := by unfold cr; grind
      omega

/-- the chain of the points seen so far -/
structure Chained (P st : List S30) : Prop where
  good : Good P st
  mem : ∀ x ∈ st, x ∈ P
  top : st.head? = P.getLast?
  bot : st.getLast? = P.head?
  two : 2 ≤ P.length → 2 ≤ st.length

theorem chained_step {P st : List S30} {s : S30} (hne : P ≠ []) (hsort : List.Pairwise lt (P ++ [s])) (h : Chained P st) : Chained (P ++ [s]) (s :: pop s st) := by
  rw [List.pairwise_append] at hsort
  obtain ⟨hP, _, hs⟩ := hsort
  have hs : ∀ p ∈ P, lt p s := fun p hp => hs p hp s (by simp)
  obtain ⟨t, ht⟩ : ∃ t, P.getLast? = some t := by
    cases hl : P.getLast? with
    | none => rw [List.getLast?_eq_none_iff] at hl; exact absurd hl hne
    | some t => exact ⟨t, rfl⟩
  obtain ⟨m, hm⟩ : ∃ m, P.head? = some m := by
    cases P with
    | nil => exact absurd rfl hne
    | cons m r => exact ⟨m, rfl⟩
  have hlast : ∀ p ∈ P, p = t ∨ lt p t := by
    obtain ⟨ys, rfl⟩ := List.getLast?_eq_some_iff.1 ht
    rw [List.pairwise_append] at hP
    intro p hp
    rcases List.mem_append.1 hp with hp | hp
    · exact .inr (hP.2.2 p hp t (by simp))
    · simp at hp; exact .inl hp
  have hfirst : ∀ p ∈ P, ¬ lt p m := by
    cases P with
    | nil => exact absurd rfl hne
    | cons x r =>
      simp at hm
      subst hm
      rw [List.pairwise_cons] at hP
      intro p hp
      rcases List.mem_cons.1 hp with rfl | hp
      · exact lt_irrefl _
      · exact not_lt_of_lt (hP.1 p hp)
  cases st with
  | nil => have := h.top; rw [ht] at this; simp at this
  | cons b r =>
    have hb : b = t := by have := h.top; rw [ht] at this; simpa using this
    subst hb
    obtain ⟨b', r', e1, e2, e3, e4, e5, e6⟩ := pop_spec hs r b h.good h.mem (fun p hp hpb => by
      rcases hlast p hp with rfl | h
      · rw [cr_self']; exact Int.le_refl _
      · exact absurd h hpb)
    rw [e1]
    have hb' : b' ∈ P := h.mem b' (e3 b' (by simp))
    refine ⟨⟨hs b' hb', fun p hp => ?_, fun c r'' e => e5 c r'' e, good_add r' b' e2 (hs b' hb') e5⟩, fun x hx => ?_, by simp, ?_, by simp⟩
    · rcases List.mem_append.1 hp with hp | hp
      · by_cases hpb : lt p b'
        · cases r' with
          | nil =>
            exfalso
            have hb := h.bot
            rw [← e6, hm] at hb
            simp at hb
            subst hb
            exact hfirst p hp hpb
          | cons a r'' =>
            have h5 := e5 a r'' rfl
            have h6 := e2.2.1 p hp
            have e7 : (b'.f0 - p.f0) * (b'.f1 - a.f1) - (b'.f1 - p.f1) * (b'.f0 - a.f0) = cr a b' p := by unfold cr; grind
            have e8 : (b'.f0 - a.f0) * (s.f1 - b'.f1) - (b'.f1 - a.f1) * (s.f0 - b'.f0) = cr a b' s := by unfold cr; grind
            have e9 : (b'.f0 - p.f0) * (s.f1 - b'.f1) - (b'.f1 - p.f1) * (s.f0 - b'.f0) = cr b' s p := by unfold cr; grind
            rw [← e9]
            exact H.trans (lexH hpb) (lexH e2.1) (lexH (hs b' hb')) (by omega) (by omega)
        · exact e4 p hp hpb
      · simp at hp; subst hp; rw [cr_self]; exact Int.le_refl _
    · rcases List.mem_cons.1 hx with rfl | hx
      · simp
      · exact List.mem_append_left _ (h.mem x (e3 x hx))
    · rw [List.getLast?_cons_cons, e6, h.bot]
      cases P with
      | nil => exact absurd rfl hne
      | cons x r => rfl

theorem chained_all : ∀ (rest P st : List S30), P ≠ [] → List.Pairwise lt (P ++ rest) → Chained P st → Chained (P ++ rest) (rest.foldl (fun st s => s :: pop s st) st)
  | [], P, st, _, _, h => by simpa using h
  | s :: r, P, st, hne, hs, h => by
    have hs' : List.Pairwise lt ((P ++ [s]) ++ r) := by simpa using hs
    have := chained_all r (P ++ [s]) _ (by simp) hs' (chained_step hne (List.Pairwise.sublist (List.sublist_append_left _ _) hs') h)
    simpa using this

/-- THE CHAIN OF SORTED POINTS. -/
theorem chained {l : List S30} (h : List.Pairwise lt l) (hne : l ≠ []) : Chained l (chainR l) := by
  cases l with
  | nil => exact absurd rfl hne
  | cons x r =>
    have := chained_all r [x] [x] (by simp) (by simpa using h) ⟨trivial, by simp, by simp, by simp, by simp⟩
    exact this

/-- by places -/
theorem good_at {P : List S30} : ∀ (st : List S30), Good P st → ∀ i (h : i + 1 < st.length), lt st[i + 1] st[i] ∧ (∀ p ∈ P, 0 ≤ cr st[i + 1] st[i] p) ∧ (∀ h2 : i + 2 < st.length, 0 < cr st[i + 2] st[i + 1] st[i])
  | [], _, i, h => by simp at h
  | [_], _, i, h => by simp at h
  | b :: a :: r, hG, i, h => by
    cases i with
    | zero =>
      refine ⟨hG.1, hG.2.1, fun h2 => ?_⟩
      cases r with
      | nil => simp at h2
      | cons c r => exact hG.2.2.1 c r rfl
    | succ i =>
      have := good_at (a :: r) (good_tail hG) i (by simp at h ⊢; omega)
      exact ⟨this.1, this.2.1, fun h2 => this.2.2 (by simp at h2 ⊢; omega)⟩
end Go.Proofs.Ytlnigbhimdphoaa.Geo
end

section
namespace Go.Proofs.Ytlnigbhimdphoaa.Geo
open Go.Proofs.Ytlnigbhimdphoaa.C Go.Proofs.Ytlnigbhimdphoaa.Vec
def neg (a : S30) : S30 := ⟨-a.f0, -a.f1⟩
theorem neg_neg (a : S30) : neg (neg a) = a := by unfold neg; simp
theorem cr_neg (a b c : S30) : cr (neg a) (neg b) (neg c) = cr a b c := by unfold cr neg; grind
theorem lt_neg {a b : S30} : lt (neg a) (neg b) ↔ lt b a := by unfold lt neg; simp only; omega
theorem pop_neg (s : S30) : ∀ st : List S30, pop (neg s) (st.map neg) = (pop s st).map neg
  | [] => rfl
  | [_] => rfl
  | b :: a :: r => by
    have ih := pop_neg s (a :: r)
    simp only [List.map_cons] at ih ⊢
    unfold pop
    rw [cr_neg]
    by_cases h : cr a b s ≤ 0
    · rw [if_pos h, if_pos h]; exact ih
    · rw [if_neg h, if_neg h]; rfl
theorem chainR_neg (l : List S30) : chainR (l.map neg) = (chainR l).map neg := by
  unfold chainR
  have : ∀ (l st : List S30), (l.map neg).foldl (fun st s => s :: pop s st) (st.map neg) = (l.foldl (fun st s => s :: pop s st) st).map neg := by
    intro l
    induction l with
    | nil => intro st; rfl
    | cons x r ih =>
      intro st
      simp only [List.map_cons, List.foldl_cons]
      rw [pop_neg, ← List.map_cons, ih]
  exact this l []

/-- one half of the hull -/
structure Arc (R : S30 → S30 → Prop) (L A : List S30) (m M : S30) : Prop where
  len : 2 ≤ A.length
  head : A[0]? = some m
  last : A[A.length - 1]? = some M
  mem : ∀ x ∈ A, x ∈ L
  side : ∀ (i : Nat) (x y : S30), A[i]? = some x → A[i + 1]? = some y → R x y ∧ ∀ p ∈ L, 0 ≤ cr x y p
  turn : ∀ (i : Nat) (x y z : S30), A[i]? = some x → A[i + 1]? = some y → A[i + 2]? = some z → 0 < cr x y z

theorem arc_of {P st : List S30} {m M : S30} (h : Chained P st) (h2 : 2 ≤ P.length) (hm : P.head? = some m) (hM : P.getLast? = some M) : Arc lt P st.reverse m M := by
  have hl := h.two h2
  have key : ∀ i x y, st.reverse[i]? = some x → st.reverse[i + 1]? = some y → lt x y ∧ (∀ p ∈ P, 0 ≤ cr x y p) ∧ ∀ z, st.reverse[i + 2]? = some z → 0 < cr x y z := by
    intro i x y hx hy
    have hi := (List.getElem?_eq_some_iff.1 hy).1
    simp only [List.length_reverse] at hi
    rw [List.getElem?_reverse (by omega)] at hx hy
    have hg := good_at st h.good (st.length - 1 - (i + 1)) (by omega)
    rw [List.getElem?_eq_getElem (by omega)] at hx hy
    injection hx with hx
    injection hy with hy
    simp only [show st.length - 1 - (i + 1) + 1 = st.length - 1 - i by omega] at hg
    rw [hx, hy] at hg
    refine ⟨hg.1, hg.2.1, fun z hz => ?_⟩
    have hi2 := (List.getElem?_eq_some_iff.1 hz).1
    simp only [List.length_reverse] at hi2
    rw [List.getElem?_reverse (by omega), List.getElem?_eq_getElem (by omega)] at hz
    injection hz with hz
    have hg2 := good_at st h.good (st.length - 1 - (i + 2)) (by omega)
    have := hg2.2.2 (by omega)
    simp only [show st.length - 1 - (i + 2) + 2 = st.length - 1 - i by omega, show st.length - 1 - (i + 2) + 1 = st.length - 1 - (i + 1) by omega] at this
    rw [hx, hy, hz] at this
    exact this
  refine ⟨by simpa using hl, ?_, ?_, fun x hx => h.mem x (by simpa using hx), fun i x y hx hy => ⟨(key i x y hx hy).1, (key i x y hx hy).2.1⟩, fun i x y z hx hy hz => (key i x y hx hy).2.2 z hz⟩
  · rw [List.getElem?_reverse (by omega), Nat.sub_zero, ← List.getLast?_eq_getElem?, h.bot, hm]
  · rw [List.getElem?_reverse (by simp; omega), List.length_reverse, show st.length - 1 - (st.length - 1) = 0 by omega, ← List.head?_eq_getElem?, h.top, hM]

theorem arc_neg {L A : List S30} {m M : S30} (h : Arc lt (L.map neg) (A.map neg) (neg m) (neg M)) : Arc (fun x y => lt y x) L A m M := by
  have up : ∀ {i : Nat} {x : S30}, A[i]? = some x → (A.map neg)[i]? = some (neg x) := fun h => by rw [List.getElem?_map, h]; rfl
  have inj : ∀ {x y : S30}, neg x = neg y → x = y := fun {x y} e => by rw [← neg_neg x, e, neg_neg]
  refine ⟨by simpa using h.len, ?_, ?_, fun x hx => ?_, fun i x y hx hy => ?_, fun i x y z hx hy hz => ?_⟩
  · have := h.head
    rw [List.getElem?_map] at this
    obtain ⟨y, hy, e⟩ := Option.map_eq_some_iff.1 this
    rw [hy, inj e]
  · have := h.last
    rw [List.length_map, List.getElem?_map] at this
    obtain ⟨y, hy, e⟩ := Option.map_eq_some_iff.1 this
    rw [hy, inj e]
  · have := h.mem (neg x) (List.mem_map_of_mem hx)
    obtain ⟨y, hy, e⟩ := List.mem_map.1 this
    rw [← inj e]
    exact hy
  · have := h.side i (neg x) (neg y) (up hx) (up hy)
    refine ⟨lt_neg.1 this.1, fun p hp => ?_⟩
    have h2 := this.2 (neg p) (List.mem_map_of_mem hp)
    rwa [cr_neg] at h2
  · have := h.turn i (neg x) (neg y) (neg z) (up hx) (up hy) (up hz)
    rwa [cr_neg] at this

theorem nth_shift (H : List S30) (i t : Nat) : nth H (i % H.length + t) = nth H (i + t) := by
  unfold nth
  rw [Nat.mod_add_mod]

theorem back_lt {a b c : S30} (h1 : lt a b) (h2 : lt c b) (h : cr a b c = 0) : dt a b c < 0 := by
  have := H.same_way (lexH h1) (lexH h2) (by
    have : (b.f0 - a.f0) * (b.f1 - c.f1) - (b.f1 - a.f1) * (b.f0 - c.f0) = - cr a b c := by unfold cr; grind
    omega)
  have e : dt a b c = -((b.f0 - a.f0) * (b.f0 - c.f0) + (b.f1 - a.f1) * (b.f1 - c.f1)) := by unfold dt; grind
  omega

/-- TWO HALVES MAKE THE HULL. -/
theorem arcs_hull {L A B : List S30} {m M : S30} (hA : Arc lt L A m M) (hB : Arc (fun x y => lt y x) L B M m) (hl : ∀ p ∈ L, ¬ lt p m) (hL : ¬ Coll L) : IsHull L (A.dropLast ++ B.dropLast) := by
  have a2 := hA.len
  have b2 := hB.len
  generalize hH : A.dropLast ++ B.dropLast = K
  have hn : K.length = (A.length - 1) + (B.length - 1) := by rw [← hH]; simp
  have pA : ∀ i x, A[i]? = some x → nth K i = x := by
    intro i x hx
    have hi := (List.getElem?_eq_some_iff.1 hx).1
    have hK : i < K.length := by omega
    rw [nth_lt K i hK]
    have e : K[i]? = some x := by
      rw [← hH]
      by_cases c : i < A.length - 1
      · rw [List.getElem?_append_left (by simpa using c), List.getElem?_dropLast, if_pos c, hx]
      · have e : i = A.length - 1 := by omega
        rw [List.getElem?_append_right (by simp; omega), List.length_dropLast, e, Nat.sub_self, List.getElem?_dropLast, if_pos (by omega), hB.head, ← hA.last, ← e, hx]
    rw [List.getElem?_eq_getElem hK] at e
    injection e
  have pB : ∀ j x, B[j]? = some x → nth K (A.length - 1 + j) = x := by
    intro j x hx
    have hj := (List.getElem?_eq_some_iff.1 hx).1
    by_cases c : j < B.length - 1
    · have hK : A.length - 1 + j < K.length := by omega
      rw [nth_lt K _ hK]
      have e : K[A.length - 1 + j]? = some x := by
        rw [← hH, List.getElem?_append_right (by simp), List.length_dropLast, show A.length - 1 + j - (A.length - 1) = j by omega, List.getElem?_dropLast, if_pos c, hx]
      rw [List.getElem?_eq_getElem hK] at e
      injection e
    · have e : j = B.length - 1 := by omega
      rw [e, hB.last] at hx
      injection hx with hx
      rw [e, show A.length - 1 + (B.length - 1) = K.length by omega, nth_len, pA 0 m hA.head, hx]
  have gA : ∀ i, i < A.length → A[i]? = some (nth K i) := fun i hi => by
    have e := List.getElem?_eq_getElem hi
    rw [pA i _ e]
    exact e
  have gB : ∀ j, j < B.length → B[j]? = some (nth K (A.length - 1 + j)) := fun j hj => by
    have e := List.getElem?_eq_getElem hj
    rw [pB j _ e]
    exact e
  have hmem : ∀ v ∈ K, v ∈ L := by
    intro v hv
    rw [← hH] at hv
    rcases List.mem_append.1 hv with hv | hv
    · exact hA.mem v ((List.dropLast_sublist _).subset hv)
    · exact hB.mem v ((List.dropLast_sublist _).subset hv)
  have hpos : 0 < K.length := by omega
  have side0 : ∀ i, i < K.length → ((lt (nth K i) (nth K (i + 1)) ∧ i + 1 < A.length) ∨ (lt (nth K (i + 1)) (nth K i) ∧ A.length ≤ i + 1)) ∧ ∀ p ∈ L, 0 ≤ cr (nth K i) (nth K (i + 1)) p := by
    intro i hi
    by_cases c : i + 1 < A.length
    · have := hA.side i _ _ (gA i (by omega)) (gA (i + 1) c)
      exact ⟨.inl ⟨this.1, c⟩, this.2⟩
    · have := hB.side (i - (A.length - 1)) _ _ (gB _ (by omega)) (gB _ (by omega))
      rw [show A.length - 1 + (i - (A.length - 1)) = i by omega, show A.length - 1 + (i - (A.length - 1) + 1) = i + 1 by omega] at this
      exact ⟨.inr ⟨this.1, by omega⟩, this.2⟩
  have left : ∀ i, ∀ p ∈ L, 0 ≤ cr (nth K i) (nth K (i + 1)) p := by
    intro i
    have := (side0 (i % K.length) (Nat.mod_lt i hpos)).2
    rwa [nth_shift, nth_mod] at this
  have ne : ∀ {x y : S30}, lt x y → x ≠ y := fun h e => by subst e; exact lt_irrefl _ h
  have inL : ∀ i, nth K i ∈ L := fun i => hmem _ (nth_mem K i hpos)
  have turn0 : ∀ i, i < K.length → 0 < cr (nth K i) (nth K (i + 1)) (nth K (i + 2)) := by
    intro i hi
    by_cases c : i + 2 < A.length
    · exact hA.turn i _ _ _ (gA i (by omega)) (gA (i + 1) (by omega)) (gA (i + 2) c)
    · by_cases c1 : i + 1 < A.length
      · -- at the last point
        have s1 := (side0 i hi).1
        have s2 := (side0 (i + 1) (by omega)).1
        have l1 : lt (nth K i) (nth K (i + 1)) := by
          rcases s1 with s1 | s1
          · exact s1.1
          · omega
        have l2 : lt (nth K (i + 2)) (nth K (i + 1)) := by
          rcases s2 with s2 | s2
          · omega
          · exact s2.1
        exact turn_of hL (ne l1).symm (inL _) (left i) (left (i + 1)) (fun h => back_lt l1 l2 h)
      · by_cases c2 : i + 1 < K.length
        · have := hB.turn (i - (A.length - 1)) _ _ _ (gB _ (by omega)) (gB _ (by omega)) (gB _ (by omega))
          rwa [show A.length - 1 + (i - (A.length - 1)) = i by omega, show A.length - 1 + (i - (A.length - 1) + 1) = i + 1 by omega, show A.length - 1 + (i - (A.length - 1) + 2) = i + 2 by omega] at this
        · -- at the first point
          have s1 := (side0 i hi).1
          have e : i + 1 = K.length := by omega
          have s2 := (side0 0 hpos).1
          have e1 : nth K (i + 1) = nth K 0 := by rw [e, nth_len]
          have e2 : nth K (i + 2) = nth K 1 := by rw [show i + 2 = 1 + K.length by omega, nth_add]
          have l1 : lt (nth K (i + 1)) (nth K i) := by
            rcases s1 with s1 | s1
            · omega
            · exact s1.1
          have l2 : lt (nth K 0) (nth K 1) := by
            rcases s2 with s2 | s2
            · exact s2.1
            · omega
          refine turn_of hL (ne l1) (inL _) (left i) (left (i + 1)) (fun h => ?_)
          rw [e1] at l1 h ⊢
          rw [e2] at h ⊢
          have := back_lt (lt_neg.2 l1) (lt_neg.2 l2) (by rw [cr_neg]; exact h)
          have e3 : dt (neg (nth K i)) (neg (nth K 0)) (neg (nth K 1)) = dt (nth K i) (nth K 0) (nth K 1) := by unfold dt neg; grind
          rwa [e3] at this
  have turn : ∀ i, 0 < cr (nth K i) (nth K (i + 1)) (nth K (i + 2)) := by
    intro i
    have := turn0 (i % K.length) (Nat.mod_lt i hpos)
    rwa [nth_shift, nth_shift, nth_mod] at this
  have h0 : nth K 0 = m := pA 0 m hA.head
  refine ⟨?_, hmem, left, turn, fun p hp => by rw [h0]; exact hl p hp, ?_⟩
  · apply Nat.not_lt.1
    intro h
    have t := turn 0
    have e : nth K 2 = nth K 0 := by rw [← nth_mod K 2, show K.length = 2 by omega]
    rw [e, cr_self'] at t
    omega
  · intro i hi hiK
    rw [h0]
    have up : ∀ i, 0 < i → i < A.length → lt m (nth K i) := by
      intro i
      induction i with
      | zero => omega
      | succ i ih =>
        intro _ hi
        have s := (side0 i (by omega)).1
        have s1 : lt (nth K i) (nth K (i + 1)) := by
          rcases s with s | s
          · exact s.1
          · omega
        by_cases c : i = 0
        · rw [c, h0] at s1; rw [c]; exact s1
        · exact lt_trans (ih (by omega) (by omega)) s1
    have down : ∀ t, 0 < t → t < B.length → lt m (nth K (K.length - t)) := by
      intro t
      induction t with
      | zero => omega
      | succ t ih =>
        intro _ ht
        have s := (side0 (K.length - (t + 1)) (by omega)).1
        rw [show K.length - (t + 1) + 1 = K.length - t by omega] at s
        have s1 : lt (nth K (K.length - t)) (nth K (K.length - (t + 1))) := by
          rcases s with s | s
          · omega
          · exact s.1
        by_cases c : t = 0
        · rw [c, Nat.sub_zero, nth_len, h0] at s1; rw [c]; exact s1
        · exact lt_trans (ih (by omega) (by omega)) s1
    by_cases c : i < A.length
    · exact up i hi c
    · have := down (K.length - i) (by omega) (by omega)
      rwa [show K.length - (K.length - i) = i by omega] at this

def hullOf (l : List S30) : List S30 := chain l ++ chain l.reverse

theorem two_ends {l : List S30} (h2 : 2 ≤ l.length) : ∃ m M, l.head? = some m ∧ l.getLast? = some M := by
  cases l with
  | nil => simp at h2
  | cons x r =>
    refine ⟨x, ?_⟩
    cases hl : (x :: r).getLast? with
    | none => rw [List.getLast?_eq_none_iff] at hl; simp at hl
    | some M => exact ⟨M, rfl, rfl⟩

theorem arcs_of {l : List S30} (hs : List.Pairwise lt l) (h2 : 2 ≤ l.length) : ∃ m M, l.head? = some m ∧ Arc lt l (chainR l).reverse m M ∧ Arc (fun x y => lt y x) l (chainR l.reverse).reverse M m := by
  obtain ⟨m, M, hm, hM⟩ := two_ends h2
  have hne : l ≠ [] := by intro e; rw [e] at h2; simp at h2
  refine ⟨m, M, hm, arc_of (chained hs hne) h2 hm hM, ?_⟩
  have hs2 : List.Pairwise lt (l.reverse.map neg) := by
    rw [List.pairwise_map, List.pairwise_reverse]
    exact List.Pairwise.imp (fun h => lt_neg.2 h) hs
  have hc := chained hs2 (by simpa using hne)
  have ha := arc_of (m := neg M) (M := neg m) hc (by simpa using h2) (by rw [List.head?_map, List.head?_reverse, hM]; rfl) (by rw [List.getLast?_map, List.getLast?_reverse, hm]; rfl)
  rw [chainR_neg, ← List.map_reverse] at ha
  have h3 := arc_neg ha
  refine ⟨h3.len, h3.head, h3.last, fun x hx => by simpa using h3.mem x hx, fun i x y hx hy => ⟨(h3.side i x y hx hy).1, fun p hp => (h3.side i x y hx hy).2 p (by simpa using hp)⟩, h3.turn⟩

theorem hullOf_eq (l : List S30) : hullOf l = (chainR l).reverse.dropLast ++ (chainR l.reverse).reverse.dropLast := by
  unfold hullOf chain
  rw [List.dropLast_reverse, List.dropLast_reverse]

theorem sorted_least {l : List S30} {m : S30} (hs : List.Pairwise lt l) (hm : l.head? = some m) : ∀ p ∈ l, ¬ lt p m := by
  cases l with
  | nil => simp at hm
  | cons x r =>
    simp at hm
    subst hm
    rw [List.pairwise_cons] at hs
    intro p hp
    rcases List.mem_cons.1 hp with rfl | hp
    · exact lt_irrefl _
    · exact not_lt_of_lt (hs.1 p hp)

theorem small_coll {l : List S30} (h : l.length < 3) : Coll l := by
  match l, h with
  | [], _ => intro p hp; simp at hp
  | [x], _ =>
    intro p hp q hq r hr
    simp at hp hq hr
    rw [hp, hq, cr_eq]
  | [x, y], _ =>
    intro p hp q hq r hr
    simp at hp hq hr
    rcases hp with rfl | rfl <;> rcases hq with rfl | rfl <;> rcases hr with rfl | rfl <;> simp [cr_eq, cr_self, cr_self']

/-- THE HULL OF SORTED POINTS. -/
theorem chain_hull {l : List S30} (hs : List.Pairwise lt l) (hL : ¬ Coll l) : IsHull l (hullOf l) := by
  have h3 : 3 ≤ l.length := Nat.not_lt.1 fun h => hL (small_coll h)
  obtain ⟨m, M, hm, hA, hB⟩ := arcs_of hs (by omega)
  rw [hullOf_eq]
  exact arcs_hull hA hB (sorted_least hs hm) hL

theorem chain_line {l : List S30} (hs : List.Pairwise lt l) (h2 : 2 ≤ l.length) (hL : Coll l) : (hullOf l).length = 2 := by
  obtain ⟨m, M, hm, hA, hB⟩ := arcs_of hs h2
  have sh : ∀ {R : S30 → S30 → Prop} {A : List S30} {m M : S30}, Arc R l A m M → A.length = 2 := by
    intro R A m M h
    have := h.len
    apply Nat.le_antisymm _ this
    apply Nat.not_lt.1
    intro h3
    have e0 := List.getElem?_eq_getElem (show 0 < A.length by omega)
    have e1 := List.getElem?_eq_getElem (show 1 < A.length by omega)
    have e2 := List.getElem?_eq_getElem (show 2 < A.length by omega)
    have t := h.turn 0 _ _ _ e0 e1 e2
    rw [hL _ (h.mem _ (List.getElem_mem _)) _ (h.mem _ (List.getElem_mem _)) _ (h.mem _ (List.getElem_mem _))] at t
    omega
  rw [hullOf_eq, List.length_append, List.length_dropLast, List.length_dropLast, sh hA, sh hB]
end Go.Proofs.Ytlnigbhimdphoaa.Geo
end
