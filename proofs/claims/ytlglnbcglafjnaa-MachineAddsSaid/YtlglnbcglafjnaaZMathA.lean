/- Plain law of chapter 48: times at which a machine is down, counted. No program in sight (but the type of a stop and the test 'covers'). -/
import Derived.Test.YtlglnbcglafjnaaMyup
namespace Go.Proofs.Ytlglnbcglafjnaa.Z
open Go Go.RowKit Go.Proofs.Ytlglnbcglafjnaa.M Go.Proofs.YtlglnbcglafjnaaW.PrintWords Go.Proofs.YtlglnbcglafjnaaW.PrintMore

/-- the machine is down at t -/
def dn (l : List S36) (m t : Int) : Bool := l.any (covers m t)
theorem dn_nil (m t : Int) : dn [] m t = false := rfl
theorem dn_cons (d : S36) (l : List S36) (m t : Int) : dn (d :: l) m t = (covers m t d || dn l m t) := rfl
theorem dn_iff (l : List S36) (m t : Int) : dn l m t = true ↔ ∃ d ∈ l, d.f0 = m ∧ d.f1 ≤ t ∧ t < d.f2 := by
  simp [dn, covers, List.any_eq_true]

/-- how many of the n times from a on satisfy p -/
def cnt (p : Int → Bool) (a : Int) : Nat → Int
  | 0 => 0
  | n + 1 => cnt p a n + (if p (a + n) then 1 else 0)
theorem cnt_add (p : Int → Bool) (a : Int) (n k : Nat) : cnt p a (n + k) = cnt p a n + cnt p (a + n) k := by
  induction k with
  | zero => simp [cnt]
  | succ k ih =>
    show cnt p a (n + k) + _ = cnt p a n + (cnt p (a + n) k + _)
    rw [ih]
    have e : a + ((n.add k : Nat) : Int) = a + n + k := by
      show a + ((n + k : Nat) : Int) = a + n + k
      omega
    rw [e]
    omega
theorem cnt_congr {p q : Int → Bool} {a : Int} {n : Nat} (h : ∀ t, a ≤ t → t < a + n → p t = q t) : cnt p a n = cnt q a n := by
  induction n with
  | zero => rfl
  | succ n ih =>
    show cnt p a n + _ = cnt q a n + _
    rw [ih (fun t h1 h2 => h t h1 (by omega)), h (a + n) (by omega) (by omega)]
theorem cnt_true {p : Int → Bool} {a : Int} {n : Nat} (h : ∀ t, a ≤ t → t < a + n → p t = true) : cnt p a n = n := by
  induction n with
  | zero => rfl
  | succ n ih =>
    show cnt p a n + _ = _
    rw [ih (fun t h1 h2 => h t h1 (by omega)), h (a + n) (by omega) (by omega)]
    simp
theorem cnt_false {p : Int → Bool} {a : Int} {n : Nat} (h : ∀ t, a ≤ t → t < a + n → p t = false) : cnt p a n = 0 := by
  induction n with
  | zero => rfl
  | succ n ih =>
    show cnt p a n + _ = _
    rw [ih (fun t h1 h2 => h t h1 (by omega)), h (a + n) (by omega) (by omega)]
    simp
theorem cnt_bd (p : Int → Bool) (a : Int) (n : Nat) : 0 ≤ cnt p a n ∧ cnt p a n ≤ n := by
  induction n with
  | zero => simp [cnt]
  | succ n ih =>
    show 0 ≤ cnt p a n + _ ∧ cnt p a n + _ ≤ _
    split <;> omega
/-- how many times from a (included) to b (excluded) satisfy p -/
def lost (p : Int → Bool) (a b : Int) : Int := cnt p a (b - a).toNat
theorem lost_split (p : Int → Bool) {a b c : Int} (h1 : a ≤ b) (h2 : b ≤ c) : lost p a c = lost p a b + lost p b c := by
  unfold lost
  rw [show (c - a).toNat = (b - a).toNat + (c - b).toNat by omega, cnt_add, show a + ((b - a).toNat : Int) = b by omega]
theorem lost_none (p : Int → Bool) {a b : Int} (h : b ≤ a) : lost p a b = 0 := by
  unfold lost
  rw [show (b - a).toNat = 0 by omega]
  rfl
theorem lost_congr {p q : Int → Bool} {a b : Int} (h : ∀ t, a ≤ t → t < b → p t = q t) : lost p a b = lost q a b := by
  by_cases hab : a ≤ b
  · exact cnt_congr fun t h1 h2 => h t h1 (by omega)
  · rw [lost_none p (by omega), lost_none q (by omega)]
theorem lost_true {p : Int → Bool} {a b : Int} (hab : a ≤ b) (h : ∀ t, a ≤ t → t < b → p t = true) : lost p a b = b - a := by
  unfold lost
  rw [cnt_true fun t h1 h2 => h t h1 (by omega)]
  omega
theorem lost_false {p : Int → Bool} {a b : Int} (h : ∀ t, a ≤ t → t < b → p t = false) : lost p a b = 0 := by
  by_cases hab : a ≤ b
  · exact cnt_false fun t h1 h2 => h t h1 (by omega)
  · exact lost_none p (by omega)
theorem lost_bd (p : Int → Bool) {a b : Int} (h : a ≤ b) : 0 ≤ lost p a b ∧ lost p a b ≤ b - a := by
  have := cnt_bd p a (b - a).toNat
  unfold lost
  omega
theorem lost_last (p : Int → Bool) {a b : Int} (h : a < b) : lost p a b = lost p a (b - 1) + (if p (b - 1) then 1 else 0) := by
  rw [lost_split p (show a ≤ b - 1 by omega) (show b - 1 ≤ b by omega)]
  congr 1
  unfold lost
  rw [show (b - (b - 1)).toNat = 1 by omega]
  simp [cnt]
theorem lost_first (p : Int → Bool) {a b : Int} (h : a < b) : lost p a b = (if p a then 1 else 0) + lost p (a + 1) b := by
  rw [lost_split p (show a ≤ a + 1 by omega) (show a + 1 ≤ b by omega)]
  congr 1
  unfold lost
  rw [show (a + 1 - a).toNat = 1 by omega]
  simp [cnt]

/-! ### intervals in ascending order -/
def inI (d : S36) (t : Int) : Bool := decide (d.f1 ≤ t) && decide (t < d.f2)
def cov (l : List S36) (t : Int) : Bool := l.any (fun d => inI d t)
theorem cov_cons (d : S36) (l : List S36) (t : Int) : cov (d :: l) t = (inI d t || cov l t) := rfl
theorem cov_append (l l' : List S36) (t : Int) : cov (l ++ l') t = (cov l t || cov l' t) := by simp [cov]
theorem cov_perm {l l' : List S36} (h : l.Perm l') (t : Int) : cov l t = cov l' t := by
  rw [Bool.eq_iff_iff]
  simp only [cov, List.any_eq_true]
  constructor
  · rintro ⟨d, hd, h2⟩; exact ⟨d, h.mem_iff.1 hd, h2⟩
  · rintro ⟨d, hd, h2⟩; exact ⟨d, h.mem_iff.2 hd, h2⟩
/-- ascending intervals from a on, none empty, each ended before the next one begins -/
def Asc : Int → List S36 → Prop
  | _, [] => True
  | a, d :: l => a ≤ d.f1 ∧ d.f1 < d.f2 ∧ Asc d.f2 l
def endOf (a : Int) (l : List S36) : Int := l.foldl (fun _ d => d.f2) a
theorem endOf_append (a : Int) (l l' : List S36) : endOf a (l ++ l') = endOf (endOf a l) l' := by simp [endOf]
theorem asc_append (a : Int) (l l' : List S36) : Asc a (l ++ l') ↔ Asc a l ∧ Asc (endOf a l) l' := by
  induction l generalizing a with
  | nil => simp [Asc, endOf]
  | cons d l ih => simp only [List.cons_append, Asc, ih, endOf, List.foldl_cons, and_assoc]
theorem asc_end {a : Int} {l : List S36} (h : Asc a l) : a ≤ endOf a l := by
  induction l generalizing a with
  | nil => exact Int.le_refl _
  | cons d l ih => have := ih h.2.2; show a ≤ endOf d.f2 l; have := h.1; have := h.2.1; omega
theorem cov_before {a t : Int} {l : List S36} (h : Asc a l) (ht : t < a) : cov l t = false := by
  induction l generalizing a with
  | nil => rfl
  | cons d l ih =>
    rw [cov_cons, ih h.2.2 (by have := h.1; have := h.2.1; omega)]
    have : ¬ d.f1 ≤ t := by have := h.1; omega
    simp [inI, this]
theorem cov_behind {a t : Int} {l : List S36} (h : Asc a l) (ht : endOf a l ≤ t) : cov l t = false := by
  induction l generalizing a with
  | nil => rfl
  | cons d l ih =>
    have e : endOf a (d :: l) = endOf d.f2 l := rfl
    rw [e] at ht
    have h2 := asc_end h.2.2
    rw [cov_cons, ih h.2.2 ht]
    have : ¬ t < d.f2 := by omega
    simp [inI, this]
def total : List S36 → Int
  | [] => 0
  | d :: l => d.f2 - d.f1 + total l
theorem total_append (l l' : List S36) : total (l ++ l') = total l + total l' := by
  induction l with
  | nil => simp [total]
  | cons d l ih => simp only [List.cons_append, total, ih]; omega
theorem total_lost {a b : Int} {l : List S36} (h : Asc a l) (hb : endOf a l ≤ b) : total l = lost (cov l) a b := by
  induction l generalizing a with
  | nil => exact (lost_false (p := cov []) (fun _ _ _ => rfl)).symm
  | cons d l ih =>
    obtain ⟨h1, h2, h3⟩ := h
    have he := asc_end h3
    have hb' : endOf d.f2 l ≤ b := hb
    rw [lost_split _ h1 (show d.f1 ≤ b by omega), lost_split _ (show d.f1 ≤ d.f2 by omega) (show d.f2 ≤ b by omega)]
    rw [lost_false (a := a), lost_true (a := d.f1) (by omega), ← lost_congr (p := cov l) (a := d.f2), ← ih h3 hb']
    · simp only [total]; omega
    · intro t ht1 ht2
      rw [cov_cons]
      have : ¬ t < d.f2 := by omega
      simp [inI, this]
    · intro t ht1 ht2
      rw [cov_cons]
      simp [inI, ht1, ht2]
    · intro t ht1 ht2
      rw [cov_cons, cov_before h3 (by omega)]
      have : ¬ d.f1 ≤ t := by omega
      simp [inI, this]
theorem total_bd {a b : Int} {l : List S36} (h : Asc a l) (hb : endOf a l ≤ b) : 0 ≤ total l ∧ total l ≤ b - a := by
  have := asc_end h
  rw [total_lost h hb]
  exact lost_bd _ (by omega)

/-! ### merging -/
def glue (c d : S36) : S36 := ⟨c.f0, c.f1, mx c.f2 d.f2⟩
def mstep (out : List S36) (d : S36) : List S36 :=
  if 0 < out.length ∧ d.f1 ≤ (rd_T36 out ((out.length : Int) - 1)).f2 then out.set (out.length - 1) (glue (rd_T36 out ((out.length : Int) - 1)) d) else out ++ [d]
theorem rd_last (pre : List S36) (c : S36) : rd_T36 (pre ++ [c]) (((pre ++ [c]).length : Int) - 1) = c := by
  unfold rd_T36
  rw [show ((((pre ++ [c]).length : Int) - 1)).toNat = pre.length by simp]
  simp
theorem mstep_nil (d : S36) : mstep [] d = [d] := by simp [mstep]
theorem mstep_snoc (pre : List S36) (c d : S36) : mstep (pre ++ [c]) d = if d.f1 ≤ c.f2 then pre ++ [glue c d] else pre ++ [c] ++ [d] := by
  unfold mstep
  rw [rd_last]
  by_cases h : d.f1 ≤ c.f2
  · rw [if_pos ⟨by simp, h⟩, if_pos h]
    simp
  · rw [if_neg (fun h2 => h h2.2), if_neg h]
theorem mx_eq (a b : Int) : mx a b = max a b := by unfold mx; omega
theorem mn_eq (a b : Int) : mn a b = min a b := by unfold mn; omega

theorem merge_snoc (a b : Int) (l : List S36) : ∀ (pre : List S36) (c : S36), Asc a (pre ++ [c]) → c.f2 ≤ b → (c :: l).Pairwise (fun x y => x.f1 ≤ y.f1) → (∀ d ∈ l, d.f1 < d.f2 ∧ d.f2 ≤ b) →
    Asc a (l.foldl mstep (pre ++ [c])) ∧ endOf a (l.foldl mstep (pre ++ [c])) ≤ b ∧ ∀ t, cov (l.foldl mstep (pre ++ [c])) t = (cov (pre ++ [c]) t || cov l t) := by
  induction l with
  | nil =>
    intro pre c h1 h2 _ _
    refine ⟨h1, ?_, fun t => by simp [cov]⟩
    rw [List.foldl_nil, endOf_append]
    exact h2
  | cons d l ih =>
    intro pre c h1 h2 h3 h4
    rw [List.pairwise_cons] at h3
    obtain ⟨h3a, h3b⟩ := h3
    have hcd := h3a d (by simp)
    obtain ⟨hd1, hd2⟩ := h4 d (by simp)
    have h1' := (asc_append a pre [c]).1 h1
    obtain ⟨ha1, ha2, ha3, _⟩ := h1'
    rw [List.foldl_cons, mstep_snoc]
    by_cases h : d.f1 ≤ c.f2
    · rw [if_pos h]
      have hg1 : (glue c d).f1 = c.f1 := rfl
      have hg2 : (glue c d).f2 = max c.f2 d.f2 := mx_eq _ _
      obtain ⟨r1, r2, r3⟩ := ih pre (glue c d) ((asc_append a pre _).2 ⟨ha1, by rw [hg1]; exact ha2, by rw [hg1, hg2]; omega, trivial⟩) (by rw [hg2]; omega)
        (by
          rw [List.pairwise_cons]
          refine ⟨fun x hx => ?_, (List.pairwise_cons.1 h3b).2⟩
          rw [hg1]
          exact h3a x (by simp [hx])) (fun x hx => h4 x (by simp [hx]))
      refine ⟨r1, r2, fun t => ?_⟩
      rw [r3, cov_append, cov_append, cov_cons d l]
      have : cov [glue c d] t = (cov [c] t || inI d t) := by
        simp only [cov, List.any_cons, List.any_nil, Bool.or_false, inI, hg1, hg2]
        rw [Bool.eq_iff_iff]
        simp only [Bool.and_eq_true, Bool.or_eq_true, decide_eq_true_eq]
        omega
      rw [this]
      simp only [Bool.or_assoc]
    · rw [if_neg h]
      obtain ⟨r1, r2, r3⟩ := ih (pre ++ [c]) d ((asc_append a _ _).2 ⟨h1, by rw [endOf_append]; show c.f2 ≤ d.f1; omega, hd1, trivial⟩) hd2 h3b (fun x hx => h4 x (by simp [hx]))
      refine ⟨r1, r2, fun t => ?_⟩
      rw [r3, cov_append, cov_cons d l]
      simp only [cov, List.any_cons, List.any_nil, Bool.or_false, Bool.or_assoc]

/-- what merging sorted stops within [a, b) gives -/
theorem merge_all {a b : Int} (hab : a ≤ b) {l : List S36} (hs : l.Pairwise (fun x y => x.f1 ≤ y.f1)) (h : ∀ d ∈ l, a ≤ d.f1 ∧ d.f1 < d.f2 ∧ d.f2 ≤ b) :
    Asc a (l.foldl mstep []) ∧ endOf a (l.foldl mstep []) ≤ b ∧ ∀ t, cov (l.foldl mstep []) t = cov l t := by
  cases l with
  | nil => exact ⟨trivial, hab, fun _ => rfl⟩
  | cons d l =>
    obtain ⟨h1, h2, h3⟩ := h d (by simp)
    rw [List.foldl_cons, mstep_nil]
    have := merge_snoc a b l [] d ⟨h1, h2, trivial⟩ h3 hs (fun x hx => (h x (by simp [hx])).2)
    simp only [List.nil_append] at this
    refine ⟨this.1, this.2.1, fun t => ?_⟩
    rw [this.2.2]
    simp [cov]

/-! ### clipping -/
def clip (m f g : Int) (d : S36) : Option S36 := if d.f0 = m ∧ mx d.f1 f < mn d.f2 g then some ⟨d.f0, mx d.f1 f, mn d.f2 g⟩ else none
theorem clip_mem {m f g : Int} {l : List S36} {d : S36} (h : d ∈ l.filterMap (clip m f g)) : f ≤ d.f1 ∧ d.f1 < d.f2 ∧ d.f2 ≤ g := by
  obtain ⟨x, _, hx⟩ := List.mem_filterMap.1 h
  unfold clip at hx
  split at hx
  · rename_i hc
    injection hx with hx
    subst hx
    simp only
    rw [mx_eq, mn_eq] at *
    omega
  · cases hx
theorem clip_cov (m f g : Int) (l : List S36) (t : Int) (h1 : f ≤ t) (h2 : t < g) : cov (l.filterMap (clip m f g)) t = dn l m t := by
  induction l with
  | nil => rfl
  | cons d l ih =>
    rw [dn_cons, List.filterMap_cons]
    by_cases hc : d.f0 = m ∧ mx d.f1 f < mn d.f2 g
    · rw [show clip m f g d = some ⟨d.f0, mx d.f1 f, mn d.f2 g⟩ from if_pos hc]
      simp only
      rw [cov_cons, ih]
      congr 1
      unfold covers inI
      simp only
      rw [mx_eq, mn_eq] at *
      rw [Bool.eq_iff_iff]
      simp only [Bool.and_eq_true, decide_eq_true_eq, beq_iff_eq]
      omega
    · rw [show clip m f g d = none from if_neg hc]
      simp only
      rw [ih]
      have : covers m t d = false := by
        unfold covers
        rw [mx_eq, mn_eq] at hc
        rw [Bool.eq_false_iff]
        intro h
        simp only [Bool.and_eq_true, decide_eq_true_eq, beq_iff_eq] at h
        omega
      rw [this, Bool.false_or]

/-! ### the end of work -/
/-- work of n times that begins at s ends at r -/
def IsFin (p : Int → Bool) (s n r : Int) : Prop := s ≤ r ∧ r - s - lost p s r = n ∧ (n = 0 → r = s) ∧ (0 < n → p (r - 1) = false)
theorem up_mono (p : Int → Bool) {s a b : Int} (h1 : s ≤ a) (h2 : a ≤ b) : a - s - lost p s a ≤ b - s - lost p s b := by
  rw [lost_split p h1 h2]
  have := lost_bd p h2
  omega
theorem fin_le (p : Int → Bool) {s n n' r r' : Int} (h : IsFin p s n r) (h' : IsFin p s n' r') (hn : n ≤ n') : r ≤ r' := by
  obtain ⟨h1, h2, h3, h4⟩ := h
  obtain ⟨k1, k2, k3, k4⟩ := h'
  rcases Int.lt_or_le r' r with hlt | hle
  · exfalso
    have hpos : 0 < n := by
      rcases Int.lt_or_le 0 n with h0 | h0
      · exact h0
      · have := up_mono p (Int.le_refl s) h1
        rw [lost_none p (Int.le_refl s)] at this
        have := h3 (by omega)
        omega
    have := h4 hpos
    have hl := lost_last p (show s < r by omega)
    rw [this] at hl
    have := up_mono p k1 (show r' ≤ r - 1 by omega)
    simp at hl
    omega
  · exact hle
theorem fin_unique (p : Int → Bool) {s n r r' : Int} (h : IsFin p s n r) (h' : IsFin p s n r') : r = r' :=
  Int.le_antisymm (fin_le p h h' (Int.le_refl _)) (fin_le p h' h (Int.le_refl _))
theorem fin_congr {p q : Int → Bool} {s n r : Int} (h : IsFin p s n r) (hpq : ∀ t, s ≤ t → p t = q t) : IsFin q s n r := by
  obtain ⟨h1, h2, h3, h4⟩ := h
  refine ⟨h1, ?_, h3, fun h0 => ?_⟩
  · rw [← lost_congr (p := p) fun t ht _ => hpq t ht]; exact h2
  · rw [← hpq (r - 1) ?_]
    · exact h4 h0
    · rcases Int.lt_or_le s r with hlt | hle
      · omega
      · have : lost p s r = 0 := lost_none p hle
        omega
end Go.Proofs.Ytlglnbcglafjnaa.Z
