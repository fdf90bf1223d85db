/- Gift wrapping: from each vertex to the next. It gives the hull, or fewer than three vertices where all points lie on a line. Plain geometry; no function of the program stands here. -/
import Derived.Test.YtlnigbhimdphoaaMHull
namespace Go.Proofs.Ytlnigbhimdphoaa.Geo
open Go.Proofs.Ytlnigbhimdphoaa.C Go.Proofs.Ytlnigbhimdphoaa.Vec
/-- All points lie on a line. -/
def Coll (L : List S30) : Prop := ∀ p ∈ L, ∀ q ∈ L, ∀ r ∈ L, cr p q r = 0
def mabs (a : Int) : Int := if a < -a then -a else a
theorem mabs_nonneg (a : Int) : 0 ≤ mabs a := by unfold mabs; split <;> omega
theorem mabs_mul (k a : Int) (hk : 0 < k) : mabs (k * a) = k * mabs a := by
  unfold mabs
  by_cases h : a < -a
  · rw [if_pos h, if_pos, Int.mul_neg]
    have : k * a < 0 := Int.mul_neg_of_pos_of_neg hk (by omega)
    omega
  · rw [if_neg h, if_neg]
    have : 0 ≤ k * a := Int.mul_nonneg (Int.le_of_lt hk) (by omega)
    omega
/-- The sum of the absolute differences. -/
def dist (a b : S30) : Int := mabs (b.f0 - a.f0) + mabs (b.f1 - a.f1)
theorem mabs_eq_zero {a : Int} (h : mabs a = 0) : a = 0 := by unfold mabs at h; split at h <;> omega
theorem dist_pos {a b : S30} (h : b ≠ a) : 0 < dist a b := by
  have h0 := mabs_nonneg (b.f0 - a.f0)
  have h1 := mabs_nonneg (b.f1 - a.f1)
  unfold dist
  apply Int.not_le.1
  intro h2
  have e0 := mabs_eq_zero (show mabs (b.f0 - a.f0) = 0 by omega)
  have e1 := mabs_eq_zero (show mabs (b.f1 - a.f1) = 0 by omega)
  exact h (ext (by omega) (by omega))

/-- The scalar product of the ways from a to b and from b to p. -/
def dt (a b p : S30) : Int := (b.f0 - a.f0) * (p.f0 - b.f0) + (b.f1 - a.f1) * (p.f1 - b.f1)
/-- a is a corner of the points: they lie within a half plane at a that is open on one side. -/
def Ext (L : List S30) (a : S30) : Prop := ∃ dx dy : Int, ∀ p ∈ L, p ≠ a → H dx dy (p.f0 - a.f0) (p.f1 - a.f1)
/-- b is the corner behind a. -/
structure Next (L : List S30) (a b : S30) : Prop where
  mem : b ∈ L
  ne : b ≠ a
  left : ∀ p ∈ L, 0 ≤ cr a b p
  far : ∀ p ∈ L, cr a b p = 0 → p ≠ b → dt a b p < 0

theorem sq_pos {a b : S30} (h : b ≠ a) : 0 < (b.f0 - a.f0) * (b.f0 - a.f0) + (b.f1 - a.f1) * (b.f1 - a.f1) := by
  have h0 := sq_nonneg (b.f0 - a.f0)
  have h1 := sq_nonneg (b.f1 - a.f1)
  apply Int.not_le.1
  intro h2
  have e0 : (b.f0 - a.f0) * (b.f0 - a.f0) = 0 := by omega
  have e1 : (b.f1 - a.f1) * (b.f1 - a.f1) = 0 := by omega
  have e0 : b.f0 - a.f0 = 0 := by rcases Int.mul_eq_zero.1 e0 with h | h <;> exact h
  have e1 : b.f1 - a.f1 = 0 := by rcases Int.mul_eq_zero.1 e1 with h | h <;> exact h
  exact h (ext (by omega) (by omega))

theorem Next.ext {L : List S30} {a b : S30} (h : Next L a b) : Ext L b := by
  refine ⟨b.f0 - a.f0, b.f1 - a.f1, fun p hp hne => ?_⟩
  have l := h.left p hp
  have e : (b.f0 - a.f0) * (p.f1 - b.f1) - (b.f1 - a.f1) * (p.f0 - b.f0) = cr a b p := by unfold cr; grind
  unfold H
  rw [e]
  rcases Int.lt_or_eq_of_le l with h1 | h1
  · exact .inl h1
  · exact .inr ⟨h1.symm, h.far p hp h1.symm hne⟩

/-- What the walk round a takes at each point. -/
def better (a next p : S30) : Bool := decide (p.f0 ≠ a.f0 ∨ p.f1 ≠ a.f1) && (decide (next.f0 = a.f0 ∧ next.f1 = a.f1) || decide (cr a next p < 0) || (decide (cr a next p = 0) && decide (dist a next < dist a p)))
def pick (a : S30) (L : List S30) : S30 := L.foldl (fun n p => if better a n p then p else n) a

theorem eq_iff {a b : S30} : a = b ↔ (a.f0 = b.f0 ∧ a.f1 = b.f1) := ⟨fun h => by subst h; exact ⟨rfl, rfl⟩, fun h => Geo.ext h.1 h.2⟩

/-- what is known behind some points -/
def Seen (a n : S30) (pre : List S30) : Prop := (n = a ∧ ∀ p ∈ pre, p = a) ∨ (n ∈ pre ∧ n ≠ a ∧ ∀ p ∈ pre, p ≠ a → 0 ≤ cr a n p ∧ (cr a n p = 0 → dist a p ≤ dist a n))

theorem seen_step {L : List S30} {a n p : S30} {pre : List S30} (hE : Ext L a) (hpre : ∀ q ∈ pre, q ∈ L) (hp : p ∈ L) (h : Seen a n pre) : Seen a (if better a n p then p else n) (pre ++ [p]) := by
  obtain ⟨dx, dy, hd⟩ := hE
  by_cases hpa : p = a
  · have hb : better a n p = false := by unfold better; simp [eq_iff.1 hpa]
    rw [hb]
    rcases h with ⟨h1, h2⟩ | ⟨h1, h2, h3⟩
    · refine .inl ⟨by simpa using h1, fun q hq => ?_⟩
      rcases List.mem_append.1 hq with hq | hq
      · exact h2 q hq
      · simp at hq; rw [hq]; exact hpa
    · refine .inr ⟨by simp [h1], by simpa using h2, fun q hq hqa => ?_⟩
      rcases List.mem_append.1 hq with hq | hq
      · simpa using h3 q hq hqa
      · simp at hq; exact absurd (hq.trans hpa) hqa
  · have hpa' : (p.f0 ≠ a.f0 ∨ p.f1 ≠ a.f1) := by
      rw [eq_iff] at hpa
      omega
    rcases h with ⟨rfl, h2⟩ | ⟨h1, h2, h3⟩
    · have hb : better n n p = true := by unfold better; simp; omega
      rw [hb]
      refine .inr ⟨by simp, by simpa using hpa, fun q hq hqa => ?_⟩
      rcases List.mem_append.1 hq with hq | hq
      · exact absurd (h2 q hq) hqa
      · simp at hq; subst hq; simp [cr_self]
    · have hna : ¬ (n.f0 = a.f0 ∧ n.f1 = a.f1) := fun e => h2 (eq_iff.2 e)
      have hn := hd n (hpre n h1) h2
      have hpH := hd p hp hpa
      have ecr : ∀ x y : S30, (x.f0 - a.f0) * (y.f1 - a.f1) - (x.f1 - a.f1) * (y.f0 - a.f0) = cr a x y := fun x y => rfl
      by_cases c1 : cr a n p < 0
      · have hb : better a n p = true := by unfold better; simp [c1]; omega
        rw [hb]
        refine .inr ⟨by simp, by simpa using hpa, fun q hq hqa => ?_⟩
        rcases List.mem_append.1 hq with hq | hq
        · have h4 := (h3 q hq hqa).1
          have hq' := hd q (hpre q hq) hqa
          have s := cr_swap a n p
          have := H.trans_lt hpH hn hq' (by rw [ecr]; omega) (by rw [ecr]; exact h4) (.inl (by rw [ecr]; omega))
          rw [ecr] at this
          simp only [if_true]
          exact ⟨by omega, fun e => by omega⟩
        · simp at hq; subst hq; simp [cr_self]
      · by_cases c2 : cr a n p = 0 ∧ dist a n < dist a p
        · have hb : better a n p = true := by unfold better; simp [c2.1, c2.2]; omega
          rw [hb]
          refine .inr ⟨by simp, by simpa using hpa, fun q hq hqa => ?_⟩
          rcases List.mem_append.1 hq with hq | hq
          · obtain ⟨h4, h5⟩ := h3 q hq hqa
            have hq' := hd q (hpre q hq) hqa
            have s := cr_swap a n p
            have t1 := H.trans hpH hn hq' (by rw [ecr]; omega) (by rw [ecr]; exact h4)
            rw [ecr] at t1
            simp only [if_true]
            refine ⟨t1, fun e => ?_⟩
            rcases Int.lt_or_eq_of_le h4 with h6 | h6
            · have := H.trans_lt hpH hn hq' (by rw [ecr]; omega) (by rw [ecr]; exact h4) (.inr (by rw [ecr]; exact h6))
              rw [ecr] at this
              omega
            · have := h5 h6.symm
              omega
          · simp at hq; subst hq; simp [cr_self]
        · have hb : better a n p = false := by
            unfold better
            simp only [Bool.and_eq_false_iff, Bool.or_eq_false_iff, decide_eq_false_iff_not]
            refine .inr ⟨⟨hna, c1⟩, ?_⟩
            by_cases c3 : cr a n p = 0
            · exact .inr (fun h => c2 ⟨c3, h⟩)
            · exact .inl c3
          rw [hb]
          simp only [Bool.false_eq_true, if_false]
          refine .inr ⟨by simp [h1], h2, fun q hq hqa => ?_⟩
          rcases List.mem_append.1 hq with hq | hq
          · exact h3 q hq hqa
          · simp at hq
            subst hq
            exact ⟨by omega, fun e => by
              have : ¬ dist a n < dist a q := fun h => c2 ⟨e, h⟩
              omega⟩

theorem seen_all {L : List S30} {a : S30} (hE : Ext L a) : ∀ (rest pre : List S30) (n : S30), (∀ q ∈ pre, q ∈ L) → (∀ q ∈ rest, q ∈ L) → Seen a n pre → Seen a (rest.foldl (fun n p => if better a n p then p else n) n) (pre ++ rest)
  | [], pre, n, _, _, h => by simpa using h
  | p :: r, pre, n, h1, h2, h => by
    have := seen_all hE r (pre ++ [p]) _ (fun q hq => by
      rcases List.mem_append.1 hq with hq | hq
      · exact h1 q hq
      · simp at hq; subst hq; exact h2 _ (by simp)) (fun q hq => h2 q (List.mem_cons_of_mem _ hq)) (seen_step hE h1 (h2 p (by simp)) h)
    simpa using this

theorem pick_seen {L : List S30} {a : S30} (hE : Ext L a) : Seen a (pick a L) L := by
  have := seen_all hE L [] a (by simp) (by simp) (.inl ⟨rfl, by simp⟩)
  rw [List.nil_append] at this
  exact this
theorem pick_same {L : List S30} {a : S30} (hE : Ext L a) (h : pick a L = a) : ∀ p ∈ L, p = a := by
  rcases pick_seen hE with ⟨_, h2⟩ | ⟨_, h2, _⟩
  · exact h2
  · exact absurd h h2
theorem pick_next {L : List S30} {a : S30} (hE : Ext L a) (h : pick a L ≠ a) : Next L a (pick a L) := by
  rcases pick_seen hE with ⟨h1, _⟩ | ⟨h1, h2, h3⟩
  · exact absurd h1 h
  · generalize pick a L = b at *
    refine ⟨h1, h2, fun p hp => ?_, fun p hp h0 hne => ?_⟩
    · by_cases e : p = a
      · rw [e, cr_self']; exact Int.le_refl _
      · exact (h3 p hp e).1
    · have hs := sq_pos h2
      have hs2 : (b.f0 - a.f0) * (b.f0 - a.f0) + (b.f1 - a.f1) * (b.f1 - a.f1) = -(dt a b a) := by unfold dt; grind
      by_cases e : p = a
      · rw [e]
        omega
      · have hd := (h3 p hp e).2 h0
        obtain ⟨dx, dy, hE⟩ := hE
        have hw := H.same_way (hE b h1 h2) (hE p hp e) h0
        -- s (p - a) = t (b - a)
        generalize hS : (b.f0 - a.f0) * (b.f0 - a.f0) + (b.f1 - a.f1) * (b.f1 - a.f1) = s at *
        generalize hT : (b.f0 - a.f0) * (p.f0 - a.f0) + (b.f1 - a.f1) * (p.f1 - a.f1) = t at *
        have e0 : s * (p.f0 - a.f0) = t * (b.f0 - a.f0) - cr a b p * (b.f1 - a.f1) := by rw [← hS, ← hT]; unfold cr; grind
        have e1 : s * (p.f1 - a.f1) = t * (b.f1 - a.f1) + cr a b p * (b.f0 - a.f0) := by rw [← hS, ← hT]; unfold cr; grind
        rw [h0, Int.zero_mul] at e0 e1
        rw [Int.sub_zero] at e0
        rw [Int.add_zero] at e1
        have hdp := dist_pos h2
        have hD : s * dist a p = t * dist a b := by
          unfold dist
          rw [Int.mul_add, Int.mul_add, ← mabs_mul _ _ hs, ← mabs_mul _ _ hs, ← mabs_mul _ _ hw, ← mabs_mul _ _ hw, e0, e1]
        have hts : t ≤ s := by
          have h5 : s * dist a p ≤ s * dist a b := Int.mul_le_mul_of_nonneg_left hd (Int.le_of_lt hs)
          rw [hD] at h5
          exact Int.le_of_mul_le_mul_right h5 hdp
        have hdt : dt a b p = t - s := by rw [← hS, ← hT]; unfold dt; grind
        rw [hdt]
        rcases Int.lt_or_eq_of_le hts with h6 | h6
        · omega
        · exfalso
          rw [h6] at e0 e1
          have f0 := Int.eq_of_mul_eq_mul_left (by omega) e0
          have f1 := Int.eq_of_mul_eq_mul_left (by omega) e1
          exact hne (Geo.ext (by omega) (by omega))

/-- A corner has one corner ahead of it at most. -/
theorem Next.inj {L : List S30} {a a' b : S30} (hE : Ext L a) (hE' : Ext L a') (ha : a ∈ L) (ha' : a' ∈ L) (h : Next L a b) (h' : Next L a' b) : a = a' := by
  apply Classical.byContradiction
  intro hne
  have l1 := h.left a' ha'
  have l2 := h'.left a ha
  have s : cr a' b a = - cr a b a' := by unfold cr; grind
  have z : cr a b a' = 0 := by omega
  have nb : a' ≠ b := fun e => h'.ne e.symm
  have nb' : a ≠ b := fun e => h.ne e.symm
  have f1 := h.far a' ha' z nb
  have f2 := h'.far a ha (by omega) nb'
  obtain ⟨dx, dy, hd⟩ := hE
  obtain ⟨ex, ey, he⟩ := hE'
  have g1 := hd b h.mem h.ne
  have g2 := hd a' ha' (Ne.symm hne)
  have g3 := he b h'.mem h'.ne
  have g4 := he a ha hne
  have hs := sq_pos (a := b) (b := a) nb'
  generalize hS : (a.f0 - b.f0) * (a.f0 - b.f0) + (a.f1 - b.f1) * (a.f1 - b.f1) = s at *
  have ht : 0 < (a.f0 - b.f0) * (a'.f0 - b.f0) + (a.f1 - b.f1) * (a'.f1 - b.f1) := by
    have e : (a.f0 - b.f0) * (a'.f0 - b.f0) + (a.f1 - b.f1) * (a'.f1 - b.f1) = -(dt a b a') := by unfold dt; grind
    omega
  generalize hT : (a.f0 - b.f0) * (a'.f0 - b.f0) + (a.f1 - b.f1) * (a'.f1 - b.f1) = t at *
  have e0 : s * (a'.f0 - b.f0) = t * (a.f0 - b.f0) + cr a b a' * (a.f1 - b.f1) := by rw [← hS, ← hT]; unfold cr; grind
  have e1 : s * (a'.f1 - b.f1) = t * (a.f1 - b.f1) - cr a b a' * (a.f0 - b.f0) := by rw [← hS, ← hT]; unfold cr; grind
  rw [z, Int.zero_mul] at e0 e1
  rw [Int.add_zero] at e0
  rw [Int.sub_zero] at e1
  rcases Int.lt_trichotomy t s with hlt | heq | hlt
  · -- at a': b and a lie on opposite sides
    have k1 : H ex ey (s * (b.f0 - a'.f0)) (s * (b.f1 - a'.f1)) := (H.scale hs).2 g3
    have k2 : H ex ey (s * (a.f0 - a'.f0)) (s * (a.f1 - a'.f1)) := (H.scale hs).2 g4
    have x0 : s * (b.f0 - a'.f0) = t * (-(a.f0 - b.f0)) := by grind
    have x1 : s * (b.f1 - a'.f1) = t * (-(a.f1 - b.f1)) := by grind
    have y0 : s * (a.f0 - a'.f0) = (s - t) * (a.f0 - b.f0) := by grind
    have y1 : s * (a.f1 - a'.f1) = (s - t) * (a.f1 - b.f1) := by grind
    rw [x0, x1] at k1
    rw [y0, y1] at k2
    exact H.no_opp ((H.scale (by omega)).1 k2) ((H.scale ht).1 k1)
  · rw [heq] at e0 e1
    have f0 := Int.eq_of_mul_eq_mul_left (by omega) e0
    have f1 := Int.eq_of_mul_eq_mul_left (by omega) e1
    exact hne (Geo.ext (by omega) (by omega))
  · have k2 : H dx dy (s * (a'.f0 - a.f0)) (s * (a'.f1 - a.f1)) := (H.scale hs).2 g2
    have y0 : s * (a'.f0 - a.f0) = (t - s) * (a.f0 - b.f0) := by grind
    have y1 : s * (a'.f1 - a.f1) = (t - s) * (a.f1 - b.f1) := by grind
    rw [y0, y1] at k2
    have k3 := (H.scale (by omega)).1 k2
    have g1' : H dx dy (-(a.f0 - b.f0)) (-(a.f1 - b.f1)) := by
      rw [show -(a.f0 - b.f0) = b.f0 - a.f0 by omega, show -(a.f1 - b.f1) = b.f1 - a.f1 by omega]
      exact g1
    exact H.no_opp k3 g1'

theorem coll_of_line {L : List S30} {a b : S30} (hne : b ≠ a) (h : ∀ p ∈ L, cr a b p = 0) : Coll L := by
  intro p hp q hq r hr
  have hs := sq_pos hne
  have h1 := h p hp
  have h2 := h q hq
  have h3 := h r hr
  have u1 : (b.f0 - a.f0) * (q.f1 - p.f1) - (b.f1 - a.f1) * (q.f0 - p.f0) = 0 := by
    have : (b.f0 - a.f0) * (q.f1 - p.f1) - (b.f1 - a.f1) * (q.f0 - p.f0) = cr a b q - cr a b p := by unfold cr; grind
    omega
  have u2 : (b.f0 - a.f0) * (r.f1 - p.f1) - (b.f1 - a.f1) * (r.f0 - p.f0) = 0 := by
    have : (b.f0 - a.f0) * (r.f1 - p.f1) - (b.f1 - a.f1) * (r.f0 - p.f0) = cr a b r - cr a b p := by unfold cr; grind
    omega
  apply zero_of_mul hs
  have e : ((b.f0 - a.f0) * (b.f0 - a.f0) + (b.f1 - a.f1) * (b.f1 - a.f1)) * cr p q r = ((b.f0 - a.f0) * (q.f0 - p.f0) + (b.f1 - a.f1) * (q.f1 - p.f1)) * ((b.f0 - a.f0) * (r.f1 - p.f1) - (b.f1 - a.f1) * (r.f0 - p.f0)) - ((b.f0 - a.f0) * (q.f1 - p.f1) - (b.f1 - a.f1) * (q.f0 - p.f0)) * ((b.f0 - a.f0) * (r.f0 - p.f0) + (b.f1 - a.f1) * (r.f1 - p.f1)) := by unfold cr; grind
  rw [e, u1, u2]
  simp

/-- Where a side follows a side and the points do not lie on a line, it turns to the left. -/
theorem turn_of {L : List S30} {a b c : S30} (hL : ¬ Coll L) (hba : b ≠ a) (hc : c ∈ L) (l1 : ∀ p ∈ L, 0 ≤ cr a b p) (l2 : ∀ p ∈ L, 0 ≤ cr b c p) (hback : cr a b c = 0 → dt a b c < 0) : 0 < cr a b c := by
  rcases Int.lt_or_eq_of_le (l1 c hc) with h | h
  · exact h
  · exfalso
    apply hL
    apply coll_of_line hba
    intro p hp
    have hd := hback h.symm
    have hs := sq_pos hba
    have e : ((b.f0 - a.f0) * (b.f0 - a.f0) + (b.f1 - a.f1) * (b.f1 - a.f1)) * cr b c p = dt a b c * cr a b p - cr a b c * ((b.f0 - a.f0) * (p.f0 - b.f0) + (b.f1 - a.f1) * (p.f1 - b.f1)) := by unfold cr dt; grind
    rw [← h, Int.zero_mul, Int.sub_zero] at e
    have h1 := Int.mul_nonneg (Int.le_of_lt hs) (l2 p hp)
    rcases Int.lt_or_eq_of_le (l1 p hp) with h2 | h2
    · have := Int.mul_neg_of_neg_of_pos hd h2
      omega
    · exact h2.symm
theorem Next.turn {L : List S30} {a b c : S30} (hL : ¬ Coll L) (h1 : Next L a b) (h2 : Next L b c) : 0 < cr a b c :=
  turn_of hL h1.ne h2.mem h1.left h2.left (fun h => h1.far c h2.mem h h2.ne)

def go (L : List S30) (v : S30) : Nat → S30 → List S30 → List S30
  | 0, _, out => out
  | n + 1, a, out => if (pick a L).f0 = v.f0 ∧ (pick a L).f1 = v.f1 then out else if (pick a L).f0 = a.f0 ∧ (pick a L).f1 = a.f1 then out else go L v n (pick a L) (out ++ [pick a L])
def wrapFrom (v : S30) (L : List S30) : List S30 := go L v L.length v [v]

theorem nodup_len {l m : List S30} (hn : l.Nodup) (hs : ∀ x ∈ l, x ∈ m) : l.length ≤ m.length := by
  classical
  induction l generalizing m with
  | nil => simp
  | cons x r ih =>
    rw [List.nodup_cons] at hn
    have hx := hs x (by simp)
    have := ih (m := m.erase x) hn.2 (fun y hy => by
      have hne : y ≠ x := fun e => hn.1 (e ▸ hy)
      exact (List.mem_erase_of_ne hne).2 (hs y (List.mem_cons_of_mem _ hy)))
    rw [List.length_erase_of_mem hx] at this
    have hp := List.length_pos_of_mem hx
    simp only [List.length_cons]
    omega

theorem nodup_inj {l : List S30} (h : l.Nodup) {i j : Nat} (hi : i < l.length) (hj : j < l.length) (e : l[i] = l[j]) : i = j := by
  unfold List.Nodup at h
  rw [List.pairwise_iff_getElem] at h
  rcases Nat.lt_trichotomy i j with hlt | heq | hlt
  · exact absurd e (h i j hi hj hlt)
  · exact heq
  · exact absurd e.symm (h j i hj hi hlt)

theorem least_ext {L : List S30} {v : S30} (h : ∀ p ∈ L, ¬ lt p v) : Ext L v := by
  refine ⟨0, -1, fun p hp hne => ?_⟩
  have h1 := h p hp
  have h2 : lt v p := by
    rcases lt_tri v p with h | h | h
    · exact h
    · exact absurd h.symm hne
    · exact absurd h h1
  unfold H
  unfold lt at h2
  omega

/-- the walk so far -/
structure Walk (L : List S30) (v a : S30) (out : List S30) : Prop where
  pos : 0 < out.length
  head : out[0]? = some v
  last : out[out.length - 1]? = some a
  nodup : out.Nodup
  mem : ∀ x ∈ out, x ∈ L
  ext : ∀ x ∈ out, Ext L x
  next : ∀ (i : Nat) (x y : S30), out[i]? = some x → out[i + 1]? = some y → Next L x y

theorem Walk.start {L : List S30} {v : S30} (hv : v ∈ L) (hE : Ext L v) : Walk L v v [v] where
  pos := by simp
  head := by simp
  last := by simp
  nodup := by simp
  mem := by simp [hv]
  ext := by simp [hE]
  next := fun i x y _ h => by simp at h

theorem Walk.grow {L : List S30} {v a b : S30} {out : List S30} (h : Walk L v a out) (hb : Next L a b) (hne : b ≠ v) : Walk L v b (out ++ [b]) := by
  have ha : a ∈ out := List.mem_iff_getElem?.2 ⟨_, h.last⟩
  have hnot : b ∉ out := by
    intro hm
    obtain ⟨j, hj⟩ := List.mem_iff_getElem?.1 hm
    have hjl := (List.getElem?_eq_some_iff.1 hj).1
    cases j with
    | zero =>
      rw [h.head] at hj
      injection hj with hj
      exact hne hj.symm
    | succ j =>
      have hlt : j < out.length := by omega
      have hx := List.getElem?_eq_getElem hlt
      have hn := h.next j _ _ hx hj
      have hmem : out[j] ∈ out := List.getElem_mem hlt
      have e := Next.inj (h.ext _ hmem) (h.ext a ha) (h.mem _ hmem) (h.mem a ha) hn hb
      have hl := h.last
      rw [List.getElem?_eq_getElem (show out.length - 1 < out.length by omega)] at hl
      injection hl with hl
      rw [← hl] at e
      have := nodup_inj h.nodup _ _ e
      omega
  refine ⟨by simp, ?_, ?_, ?_, ?_, ?_, ?_⟩
  · rw [List.getElem?_append_left h.pos]; exact h.head
  · simp
  · rw [List.nodup_append]
    exact ⟨h.nodup, by simp, fun x hx y hy e => by simp at hy; subst hy; subst e; exact hnot hx⟩
  · intro x hx
    rcases List.mem_append.1 hx with hx | hx
    · exact h.mem x hx
    · simp at hx; subst hx; exact hb.mem
  · intro x hx
    rcases List.mem_append.1 hx with hx | hx
    · exact h.ext x hx
    · simp at hx; subst hx; exact hb.ext
  · intro i x y hx hy
    by_cases c : i + 1 < out.length
    · rw [List.getElem?_append_left (by omega)] at hx
      rw [List.getElem?_append_left c] at hy
      exact h.next i x y hx hy
    · have hp := h.pos
      have hi2 := (List.getElem?_eq_some_iff.1 hy).1
      simp only [List.length_append, List.length_cons, List.length_nil] at hi2
      have e : i = out.length - 1 := by omega
      rw [List.getElem?_append_left (by omega), e, h.last] at hx
      injection hx with hx
      rw [List.getElem?_append_right (by omega), show i + 1 - out.length = 0 by omega] at hy
      simp at hy
      rw [← hx, ← hy]
      exact hb

/-- the walk closes -/
theorem go_closes {L : List S30} {v : S30} (hne : ∀ a ∈ L, ∃ p ∈ L, p ≠ a) : ∀ (n : Nat) (a : S30) (out : List S30), Walk L v a out → out.length + n = L.length + 1 → ∃ a' out', go L v n a out = out' ∧ Walk L v a' out' ∧ Next L a' v
  | 0, a, out, h, hl => by
    have := nodup_len h.nodup h.mem
    omega
  | n + 1, a, out, h, hl => by
    have ha : a ∈ out := List.mem_iff_getElem?.2 ⟨_, h.last⟩
    have hp : pick a L ≠ a := by
      intro e
      obtain ⟨p, hp, hpa⟩ := hne a (h.mem a ha)
      exact hpa (pick_same (h.ext a ha) e p hp)
    have hn := pick_next (h.ext a ha) hp
    have hpf : ¬ ((pick a L).f0 = a.f0 ∧ (pick a L).f1 = a.f1) := fun e => hp (eq_iff.2 e)
    unfold go
    by_cases hv : (pick a L).f0 = v.f0 ∧ (pick a L).f1 = v.f1
    · rw [if_pos hv]
      rw [eq_iff.2 hv] at hn
      exact ⟨a, out, rfl, h, hn⟩
    · rw [if_neg hv, if_neg hpf]
      exact go_closes hne n _ _ (h.grow hn (fun e => hv (eq_iff.1 e))) (by simp; omega)

theorem not_coll_two {L : List S30} (h : ¬ Coll L) (a : S30) : ∃ p ∈ L, p ≠ a := by
  apply Classical.byContradiction
  intro hn
  apply h
  have : ∀ p ∈ L, p = a := fun p hp => Classical.byContradiction fun e => hn ⟨p, hp, e⟩
  intro p hp q hq r hr
  rw [this p hp, this q hq, cr_eq]

/-- GIFT WRAPPING GIVES THE HULL. -/
theorem wrap_hull {L : List S30} {v : S30} (hv : v ∈ L) (hl : ∀ p ∈ L, ¬ lt p v) (hL : ¬ Coll L) : IsHull L (wrapFrom v L) := by
  obtain ⟨a', out, he, hW, hn⟩ := go_closes (v := v) (fun a _ => not_coll_two hL a) L.length v [v] (Walk.start hv (least_ext hl)) (by simp; omega)
  have hw : wrapFrom v L = out := he
  rw [hw]
  have hpos := hW.pos
  have h0 : nth out 0 = v := by
    have := hW.head
    rw [List.getElem?_eq_getElem hpos] at this
    injection this with this
    rw [nth_lt out 0 hpos, this]
  have hstep : ∀ i, Next L (nth out i) (nth out (i + 1)) := by
    intro i
    have hi := Nat.mod_lt i hpos
    rw [← nth_mod out i, ← nth_mod out (i + 1), Nat.add_mod, show (1 % out.length) = 1 % out.length from rfl, ← Nat.add_mod]
    by_cases c : i % out.length + 1 < out.length
    · have e : (i + 1) % out.length = i % out.length + 1 := by rw [Nat.add_mod, Nat.mod_eq_of_lt (show 1 < out.length by omega), Nat.mod_eq_of_lt c]
      rw [e, nth_lt _ _ hi, nth_lt _ _ c]
      exact hW.next _ _ _ (List.getElem?_eq_getElem hi) (List.getElem?_eq_getElem c)
    · have e : i % out.length = out.length - 1 := by omega
      have e2 : (i + 1) % out.length = 0 := by
        have : i + 1 = out.length * (i / out.length + 1) := by
          have := Nat.div_add_mod i out.length
          rw [Nat.mul_add, Nat.mul_one]
          omega
        rw [this, Nat.mul_mod_right]
      have hl := hW.last
      rw [List.getElem?_eq_getElem (show out.length - 1 < out.length by omega)] at hl
      injection hl with hl
      rw [e2, h0, e, nth_lt _ _ (by omega), hl]
      exact hn
  have hturn : ∀ i, 0 < cr (nth out i) (nth out (i + 1)) (nth out (i + 2)) := fun i => Next.turn hL (hstep i) (hstep (i + 1))
  refine ⟨?_, hW.mem, fun i => (hstep i).left, hturn, fun p hp => by rw [h0]; exact hl p hp, fun i hi hil => ?_⟩
  · apply Nat.not_lt.1
    intro h3
    have t := hturn 0
    have : out.length = 1 ∨ out.length = 2 := by omega
    rcases this with h | h
    · have e : nth out 1 = nth out 0 := by rw [← nth_mod out 1, h]
      rw [e, cr_eq] at t
      omega
    · have e : nth out 2 = nth out 0 := by rw [← nth_mod out 2, h]
      rw [e, cr_self'] at t
      omega
  · rw [h0]
    have hm := hW.mem _ (nth_mem out i hpos)
    rcases lt_tri v (nth out i) with h | h | h
    · exact h
    · exfalso
      rw [← h0, nth_lt _ _ hpos, nth_lt _ _ hil] at h
      have := nodup_inj hW.nodup _ _ h
      omega
    · exact absurd h (hl _ hm)

/-- .. and where all lie on a line it gives fewer than three. -/
theorem wrap_line {L : List S30} {v : S30} (hv : v ∈ L) (hl : ∀ p ∈ L, ¬ lt p v) (hL : Coll L) : (wrapFrom v L).length < 3 := by
  have hE := least_ext hl
  unfold wrapFrom
  generalize L.length = n
  cases n with
  | zero => simp [go]
  | succ n =>
    unfold go
    by_cases h1 : (pick v L).f0 = v.f0 ∧ (pick v L).f1 = v.f1
    · rw [if_pos h1]; simp
    · rw [if_neg h1, if_neg h1]
      have hp : pick v L ≠ v := fun e => h1 (eq_iff.1 e)
      have hn := pick_next hE hp
      generalize pick v L = b at *
      cases n with
      | zero => simp [go]
      | succ n =>
        unfold go
        have hpb : pick b L ≠ b := fun e => hp (pick_same hn.ext e v hv).symm
        have hnb := pick_next hn.ext hpb
        have hv2 : pick b L = v := by
          generalize pick b L = c at *
          apply Classical.byContradiction
          intro hne
          have z1 := hL v hv b hn.mem c hnb.mem
          have z2 := hL b hn.mem c hnb.mem v hv
          have f1 := hn.far c hnb.mem z1 hpb
          have f2 := hnb.far v hv z2 (Ne.symm hne)
          obtain ⟨dx, dy, hd⟩ := hE
          have g1 := hd b hn.mem hp
          have g2 := hd c hnb.mem hne
          have w := H.same_way g1 g2 z1
          -- along the line: v at 0, b at s, c at t > 0: t < s, and (0 - t)(t - s) < 0
          have hs := sq_pos hp
          generalize hS : (b.f0 - v.f0) * (b.f0 - v.f0) + (b.f1 - v.f1) * (b.f1 - v.f1) = s at *
          generalize hT : (b.f0 - v.f0) * (c.f0 - v.f0) + (b.f1 - v.f1) * (c.f1 - v.f1) = t at *
          have a1 : dt v b c = t - s := by rw [← hS, ← hT]; unfold dt; grind
          have a2 : s * dt b c v = (t - s) * (0 - t) - cr v b c * cr v b c := by rw [← hS, ← hT]; unfold dt cr; grind
          rw [z1, Int.zero_mul, Int.sub_zero] at a2
          have a3 : s * dt b c v < 0 := Int.mul_neg_of_pos_of_neg hs f2
          have a4 : 0 < (t - s) * (0 - t) := Int.mul_pos_of_neg_of_neg (by omega) (by omega)
          omega
        rw [if_pos (eq_iff.1 hv2)]
        simp
end Go.Proofs.Ytlnigbhimdphoaa.Geo
