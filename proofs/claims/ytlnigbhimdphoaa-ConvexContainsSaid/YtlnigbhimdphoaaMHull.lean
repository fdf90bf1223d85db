/- What a hull of points is, and that there is one at most. Plain geometry; no function of the program stands here. -/
import Derived.Test.YtlnigbhimdphoaaMVec
import Derived.Test.YtlnigbhimdphoaaCx0
namespace Go.Proofs.Ytlnigbhimdphoaa.Geo
open Go.Proofs.Ytlnigbhimdphoaa.C Go.Proofs.Ytlnigbhimdphoaa.Vec
/-- The cross product of the ways from a to b and from a to c. -/
def cr (a b c : S30) : Int := (b.f0 - a.f0) * (c.f1 - a.f1) - (b.f1 - a.f1) * (c.f0 - a.f0)
def lt (a b : S30) : Prop := a.f0 < b.f0 ∨ (a.f0 = b.f0 ∧ a.f1 < b.f1)
theorem ext {a b : S30} (h0 : a.f0 = b.f0) (h1 : a.f1 = b.f1) : a = b := by cases a; cases b; simp_all
theorem lt_irrefl (a : S30) : ¬ lt a a := by unfold lt; omega
theorem lt_trans {a b c : S30} (h1 : lt a b) (h2 : lt b c) : lt a c := by unfold lt at *; omega
theorem lt_tri (a b : S30) : lt a b ∨ a = b ∨ lt b a := by
  unfold lt
  by_cases h : a.f0 = b.f0
  · by_cases h' : a.f1 = b.f1
    · exact .inr (.inl (ext h h'))
    · omega
  · omega
theorem eq_of_not_lt {a b : S30} (h1 : ¬ lt a b) (h2 : ¬ lt b a) : a = b := by
  rcases lt_tri a b with h | h | h
  · exact absurd h h1
  · exact h
  · exact absurd h h2
theorem not_lt_of_lt {a b : S30} (h : lt a b) : ¬ lt b a := by unfold lt at *; omega
theorem cr_cyc (a b c : S30) : cr b c a = cr a b c := by unfold cr; grind
theorem cr_swap (a b c : S30) : cr a c b = - cr a b c := by unfold cr; grind
theorem cr_self (a b : S30) : cr a b b = 0 := by unfold cr; grind
theorem cr_self' (a b : S30) : cr a b a = 0 := by unfold cr; grind
theorem cr_eq (a c : S30) : cr a a c = 0 := by unfold cr; grind

/-- The vertex i, round and round. -/
def nth (H : List S30) (i : Nat) : S30 := H.getD (i % H.length) ⟨0, 0⟩
theorem nth_add (H : List S30) (i : Nat) : nth H (i + H.length) = nth H i := by unfold nth; rw [Nat.add_mod_right]
theorem nth_len (H : List S30) : nth H H.length = nth H 0 := by have := nth_add H 0; rwa [Nat.zero_add] at this
theorem nth_lt (H : List S30) (i : Nat) (h : i < H.length) : nth H i = H[i] := by
  unfold nth
  rw [Nat.mod_eq_of_lt h, List.getD_eq_getElem?_getD, List.getElem?_eq_getElem h]
  rfl
theorem nth_mod (H : List S30) (i : Nat) : nth H (i % H.length) = nth H i := by unfold nth; rw [Nat.mod_mod]
theorem nth_mem (H : List S30) (i : Nat) (h : 0 < H.length) : nth H i ∈ H := by
  have := Nat.mod_lt i h
  rw [← nth_mod, nth_lt H _ this]
  exact List.getElem_mem this
theorem mem_nth {H : List S30} {v : S30} (h : v ∈ H) : ∃ i, i < H.length ∧ v = nth H i := by
  obtain ⟨i, hi, rfl⟩ := List.mem_iff_getElem.1 h
  exact ⟨i, hi, (nth_lt H i hi).symm⟩

/-- H is the hull of L: its vertices are points of L, no point lies to the right of a side, it turns strictly to the left at each vertex, and the least point comes first. -/
structure IsHull (L H : List S30) : Prop where
  three : 3 ≤ H.length
  mem : ∀ v ∈ H, v ∈ L
  left : ∀ i, ∀ p ∈ L, 0 ≤ cr (nth H i) (nth H (i + 1)) p
  turn : ∀ i, 0 < cr (nth H i) (nth H (i + 1)) (nth H (i + 2))
  least : ∀ p ∈ L, ¬ lt p (nth H 0)
  first : ∀ i, 0 < i → i < H.length → lt (nth H 0) (nth H i)

theorem IsHull.of_mem {L L' H : List S30} (h : IsHull L H) (e : ∀ p, p ∈ L ↔ p ∈ L') : IsHull L' H where
  three := h.three
  mem v hv := (e v).1 (h.mem v hv)
  left i p hp := h.left i p ((e p).2 hp)
  turn := h.turn
  least p hp := h.least p ((e p).2 hp)
  first := h.first

theorem IsHull.pos {L H : List S30} (h : IsHull L H) : 0 < H.length := by have := h.three; omega
theorem IsHull.nthm {L H : List S30} (h : IsHull L H) (i : Nat) : nth H i ∈ L := h.mem _ (nth_mem H i h.pos)

/-- From a vertex the next one is told by the points alone. -/
theorem next_eq {z a b c b' c' : S30} (h1 : 0 < cr z a b) (h2 : 0 ≤ cr z a b') (h3 : 0 ≤ cr a b b') (h4 : 0 ≤ cr a b' b) (h5 : 0 < cr a b c) (h6 : 0 < cr a b' c') (h7 : 0 ≤ cr b c b') (h8 : 0 ≤ cr b' c' b) : b = b' := by
  have h0 : cr a b b' = 0 := by rw [cr_swap] at h4; omega
  have vx : cr z a b * (b'.f0 - a.f0) = cr z a b' * (b.f0 - a.f0) - cr a b b' * (a.f0 - z.f0) := by unfold cr; grind
  have vy : cr z a b * (b'.f1 - a.f1) = cr z a b' * (b.f1 - a.f1) - cr a b b' * (a.f1 - z.f1) := by unfold cr; grind
  rw [h0, Int.zero_mul, Int.sub_zero] at vx vy
  have hs : 0 < cr z a b' := by
    rcases Int.lt_or_eq_of_le h2 with h | h
    · exact h
    · rw [← h, Int.zero_mul] at vx vy
      have e0 := zero_of_mul h1 vx
      have e1 := zero_of_mul h1 vy
      have : b' = a := ext (by omega) (by omega)
      rw [this, cr_eq] at h6
      omega
  have k1 : cr z a b * cr b c b' = (cr z a b - cr z a b') * cr a b c := by
    have : cr z a b * cr b c b' = (c.f0 - b.f0) * (cr z a b * (b'.f1 - a.f1) - cr z a b * (b.f1 - a.f1)) - (c.f1 - b.f1) * (cr z a b * (b'.f0 - a.f0) - cr z a b * (b.f0 - a.f0)) := by unfold cr; grind
    rw [this, vx, vy]
    generalize cr z a b = s
    generalize cr z a b' = t
    unfold cr
    grind
  have k2 : cr z a b' * cr b' c' b = (cr z a b' - cr z a b) * cr a b' c' := by
    have : cr z a b' * cr b' c' b = (c'.f0 - b'.f0) * (cr z a b' * (b.f1 - a.f1) - cr z a b' * (b'.f1 - a.f1)) - (c'.f1 - b'.f1) * (cr z a b' * (b.f0 - a.f0) - cr z a b' * (b'.f0 - a.f0)) := by unfold cr; grind
    rw [this, ← vx, ← vy]
    generalize cr z a b = s
    generalize cr z a b' = t
    unfold cr
    grind
  have l1 : cr z a b' ≤ cr z a b := by
    have : 0 ≤ (cr z a b - cr z a b') * cr a b c := by rw [← k1]; exact Int.mul_nonneg (Int.le_of_lt h1) h7
    rw [Int.mul_comm] at this
    have := nonneg_of_mul h5 this
    omega
  have l2 : cr z a b ≤ cr z a b' := by
    have : 0 ≤ (cr z a b' - cr z a b) * cr a b' c' := by rw [← k2]; exact Int.mul_nonneg (Int.le_of_lt hs) h8
    rw [Int.mul_comm] at this
    have := nonneg_of_mul h6 this
    omega
  have l3 : cr z a b' = cr z a b := by omega
  rw [l3] at vx vy
  have e0 := Int.eq_of_mul_eq_mul_left (by omega) vx
  have e1 := Int.eq_of_mul_eq_mul_left (by omega) vy
  exact ext (by omega) (by omega)

theorem IsHull.prev_turn {L H : List S30} (h : IsHull L H) (i : Nat) : 0 < cr (nth H (i + (H.length - 1))) (nth H i) (nth H (i + 1)) := by
  have := h.turn (i + (H.length - 1))
  have e := h.pos
  rwa [show i + (H.length - 1) + 1 = i + H.length by omega, show i + (H.length - 1) + 2 = i + 1 + H.length by omega, nth_add, nth_add] at this
theorem IsHull.prev_left {L H : List S30} (h : IsHull L H) (i : Nat) (p : S30) (hp : p ∈ L) : 0 ≤ cr (nth H (i + (H.length - 1))) (nth H i) p := by
  have := h.left (i + (H.length - 1)) p hp
  have e := h.pos
  rwa [show i + (H.length - 1) + 1 = i + H.length by omega, nth_add] at this

theorem IsHull.step {L H K : List S30} (h : IsHull L H) (k : IsHull L K) (i j : Nat) (e : nth H i = nth K j) : nth H (i + 1) = nth K (j + 1) := by
  have t := h.prev_turn i
  have l := h.prev_left i (nth K (j + 1)) (k.nthm _)
  have h3 := h.left i (nth K (j + 1)) (k.nthm _)
  have h4 := k.left j (nth H (i + 1)) (h.nthm _)
  have h5 := h.turn i
  have h6 := k.turn j
  have h7 := h.left (i + 1) (nth K (j + 1)) (k.nthm _)
  have h8 := k.left (j + 1) (nth H (i + 1)) (h.nthm _)
  rw [← e] at h4 h6
  exact next_eq t l h3 h4 h5 h6 h7 h8

/-- THERE IS ONE HULL AT MOST. -/
theorem IsHull.unique {L H K : List S30} (h : IsHull L H) (k : IsHull L K) : H = K := by
  have e0 : nth H 0 = nth K 0 := eq_of_not_lt (k.least _ (h.nthm 0)) (h.least _ (k.nthm 0))
  have e : ∀ i, nth H i = nth K i := by
    intro i
    induction i with
    | zero => exact e0
    | succ i ih => exact h.step k i i ih
  have hl : H.length = K.length := by
    rcases Nat.lt_trichotomy H.length K.length with hlt | heq | hlt
    · have := k.first H.length h.pos hlt
      rw [← e H.length, nth_len, e0] at this
      exact absurd this (lt_irrefl _)
    · exact heq
    · have := h.first K.length k.pos hlt
      rw [e K.length, nth_len, e0] at this
      exact absurd this (lt_irrefl _)
  apply List.ext_getElem hl
  intro i h1 h2
  have := e i
  rwa [nth_lt H i h1, nth_lt K i h2] at this

theorem IsHull.self {L H : List S30} (h : IsHull L H) : IsHull H H where
  three := h.three
  mem _ hv := hv
  left i p hp := h.left i p (h.mem p hp)
  turn := h.turn
  least p hp := h.least p (h.mem p hp)
  first := h.first

theorem IsHull.inj {L H : List S30} (h : IsHull L H) {i j : Nat} (hi : i < H.length) (hj : j < H.length) (e : nth H i = nth H j) : i = j := by
  have go : ∀ i j, i < j → j < H.length → nth H i = nth H j → False := by
    intro i j hij hj e
    have hs : ∀ t, nth H (i + t) = nth H (j + t) := by
      intro t
      induction t with
      | zero => exact e
      | succ t ih => exact h.step h (i + t) (j + t) ih
    have := hs (H.length - j)
    rw [show j + (H.length - j) = H.length by omega, nth_len] at this
    have h2 := h.first (i + (H.length - j)) (by omega) (by omega)
    rw [this] at h2
    exact lt_irrefl _ h2
  rcases Nat.lt_trichotomy i j with hlt | heq | hlt
  · exact absurd e (fun e => go i j hlt hj e)
  · exact heq
  · exact absurd e.symm (fun e => go j i hlt hi e)
theorem IsHull.nodup {L H : List S30} (h : IsHull L H) : H.Nodup := by
  unfold List.Nodup
  rw [List.pairwise_iff_getElem]
  intro i j hi hj hij e
  rw [← nth_lt H i hi, ← nth_lt H j hj] at e
  have := h.inj hi hj e
  omega

/-- A point is told by the two sides at a vertex. -/
theorem cone (z v n p : S30) (dx dy : Int) : cr z v n * (dx * (p.f0 - v.f0) + dy * (p.f1 - v.f1)) = cr z v p * (dx * (n.f0 - v.f0) + dy * (n.f1 - v.f1)) + cr v n p * (dx * (z.f0 - v.f0) + dy * (z.f1 - v.f1)) := by unfold cr; grind

/-- the greatest of a list in a direction -/
theorem exists_max (dx dy : Int) : ∀ (H : List S30), H ≠ [] → ∃ v ∈ H, ∀ u ∈ H, dx * u.f0 + dy * u.f1 ≤ dx * v.f0 + dy * v.f1
  | [], h => absurd rfl h
  | [v], _ => ⟨v, by simp, fun u hu => by simp at hu; subst hu; exact Int.le_refl _⟩
  | v :: x :: r, _ => by
    obtain ⟨m, hm, hmax⟩ := exists_max dx dy (x :: r) (by simp)
    by_cases h : dx * v.f0 + dy * v.f1 ≤ dx * m.f0 + dy * m.f1
    · refine ⟨m, List.mem_cons_of_mem _ hm, fun u hu => ?_⟩
      rcases List.mem_cons.1 hu with rfl | hu
      · exact h
      · exact hmax u hu
    · refine ⟨v, by simp, fun u hu => ?_⟩
      rcases List.mem_cons.1 hu with rfl | hu
      · exact Int.le_refl _
      · have := hmax u hu
        omega

/-- The greatest value in a direction is a vertex's. -/
theorem IsHull.support {L H : List S30} (h : IsHull L H) (dx dy : Int) : ∃ v ∈ H, ∀ p ∈ L, dx * p.f0 + dy * p.f1 ≤ dx * v.f0 + dy * v.f1 := by
  obtain ⟨v, hv, hmax⟩ := exists_max dx dy H (by intro e; have := h.three; rw [e] at this; simp at this)
  refine ⟨v, hv, fun p hp => ?_⟩
  obtain ⟨i, hi, rfl⟩ := mem_nth hv
  have t := h.prev_turn i
  have l1 := h.prev_left i p hp
  have l2 := h.left i p hp
  have m1 := hmax _ (nth_mem H (i + 1) h.pos)
  have m2 := hmax _ (nth_mem H (i + (H.length - 1)) h.pos)
  have c := cone (nth H (i + (H.length - 1))) (nth H i) (nth H (i + 1)) p dx dy
  generalize nth H (i + (H.length - 1)) = z at *
  generalize nth H (i + 1) = n at *
  generalize nth H i = v at *
  have a1 : dx * (n.f0 - v.f0) + dy * (n.f1 - v.f1) ≤ 0 := by rw [Int.mul_sub, Int.mul_sub]; omega
  have a2 : dx * (z.f0 - v.f0) + dy * (z.f1 - v.f1) ≤ 0 := by rw [Int.mul_sub, Int.mul_sub]; omega
  have b1 := Int.mul_nonpos_of_nonneg_of_nonpos l1 a1
  have b2 := Int.mul_nonpos_of_nonneg_of_nonpos l2 a2
  have : cr z v n * (dx * (p.f0 - v.f0) + dy * (p.f1 - v.f1)) ≤ 0 := by omega
  have := nonpos_of_mul t this
  rw [Int.mul_sub, Int.mul_sub] at this
  omega
end Go.Proofs.Ytlnigbhimdphoaa.Geo
