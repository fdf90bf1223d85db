/- What the printed functions of chapter 14 come to: the hull with its limits; Same. -/
import Derived.Test.YtlnigbhimdphoaaMLinks
import Derived.Test.YtlnigbhimdphoaaCx11
namespace Go.Proofs.Ytlnigbhimdphoaa.Z
open Go Go.RowKit Go.Proofs.Ytlnigbhimdphoaa.C Go.Proofs.Ytlnigbhimdphoaa.Geo Go.Proofs.YtlnigbhimdphoaaW.PrintWords Go.Proofs.YtlnigbhimdphoaaW.PrintMore

theorem Cross_far {a b c : S30} (ha : Far a) (hb : Far b) (hc : Far c) : garmentref11_Cross.f a.f0 a.f1 b.f0 b.f1 c.f0 c.f1 = some (cr a b c) := cross_far ha hb hc

instance (a b : S30) : Decidable (lt a b) := by unfold lt; infer_instance
theorem less_eq (a b : S30) : garmentref11_Less.f a.f0 a.f1 b.f0 b.f1 = some (decide (lt a b)) := by
  unfold garmentref11_Less.f lt
  by_cases h : a.f0 < b.f0
  · rw [if_pos h]; simp [h]
  · rw [if_neg h]
    by_cases h2 : a.f0 = b.f0
    · rw [if_pos h2]; simp [h2]
    · rw [if_neg h2]; simp [h, h2]

/-! ### Hull, both -/
/-- what a hull with its limits is -/
def HullIs (l : List S30) (r : List S30 × Int) : Prop :=
  if 160 < l.length then r = ([], 5) else if ¬ ∀ x ∈ l, Far x then r = ([], 3) else (Coll l ∧ r = ([], 11)) ∨ (¬ Coll l ∧ r.2 = 0 ∧ IsHull l r.1)
theorem HullIs.ok {l : List S30} {r : List S30 × Int} (hl : l.length ≤ 160) (hF : ∀ x ∈ l, Far x) (h : (Coll l ∧ r = ([], 11)) ∨ (¬ Coll l ∧ r.2 = 0 ∧ IsHull l r.1)) : HullIs l r := by
  unfold HullIs
  rw [if_neg (by omega), if_neg (fun h => h hF)]
  exact h
theorem HullIs.unique {l : List S30} {r s : List S30 × Int} (h1 : HullIs l r) (h2 : HullIs l s) : r = s := by
  unfold HullIs at h1 h2
  split at h1
  · rename_i c
    rw [if_pos c] at h2
    rw [h1, h2]
  · rename_i c
    rw [if_neg c] at h2
    split at h1
    · rename_i c2
      rw [if_pos c2] at h2
      rw [h1, h2]
    · rename_i c2
      rw [if_neg c2] at h2
      rcases h1 with ⟨a1, a2⟩ | ⟨a1, a2, a3⟩
      · rcases h2 with ⟨b1, b2⟩ | ⟨b1, b2, b3⟩
        · rw [a2, b2]
        · exact absurd a1 b1
      · rcases h2 with ⟨b1, b2⟩ | ⟨b1, b2, b3⟩
        · exact absurd b1 a1
        · exact Prod.ext (a3.unique b3) (by rw [a2, b2])

theorem within_eq (x : S30) (m : Int) (hm : 0 ≤ m ∧ m ≤ 1000000000) : garmentref11_Within.f x.f0 x.f1 m = some (decide ((-m ≤ x.f0 ∧ x.f0 ≤ m) ∧ (-m ≤ x.f1 ∧ x.f1 ≤ m))) := by
  unfold garmentref11_Within.f
  rw [w64 (by omega) (by omega)]
  by_cases c0 : x.f0 ≥ -m
  · rw [if_pos c0]
    by_cases c1 : x.f0 ≤ m
    · rw [if_pos c1]
      by_cases c2 : x.f1 ≥ -m
      · rw [if_pos c2]; congr 1; rw [decide_eq_decide]; omega
      · rw [if_neg c2]; congr 1; simp; omega
    · rw [if_neg c1]; congr 1; simp; omega
  · rw [if_neg c0]; congr 1; simp; omega
theorem within_far (x : S30) : garmentref11_Within.f x.f0 x.f1 4194304 = some (decide (Far x)) := within_eq x 4194304 (by omega)
theorem near_eq (x : S30) : convex_near.f x.f0 x.f1 = some (decide (Far x)) := by
  have h := within_far x
  unfold garmentref11_Within.f at h
  rw [w64 (by omega) (by omega)] at h
  exact h

theorem not_all {l : List S30} {i : Nat} (hlt : i < l.length) (h : ¬ Far l[i]) : ¬ ∀ x ∈ l, Far x := fun hF => h (hF _ (List.getElem_mem hlt))

theorem Hull_l0 (l : List S30) (hl : l.length ≤ 160) (n : Nat) : ∀ (i : Nat), i + n = l.length → (∀ j (hj : j < l.length), j < i → Far l[j]) →
    ∃ r, Ev (fun k => convex_Hull.l0 k l l (l.length : Int) (i : Int)) r ∧ HullIs l r := by
  induction n with
  | zero =>
    intro i hi hinv
    have hF : ∀ x ∈ l, Far x := fun x hx => by
      obtain ⟨j, hj, rfl⟩ := List.mem_iff_getElem.1 hx
      exact hinv j hj (by omega)
    obtain ⟨r, hr, hres⟩ := hull_f l (by omega) hF
    rcases hres with ⟨h1, h2, h3⟩ | ⟨h1, h2⟩
    · refine ⟨(r.1, 0), Ev.step (fun k => by simp only [convex_Hull.l0]; rw [if_neg (nlt_cast (by omega))]) (Ev.bind hr (Ev.congr (f := fun _ => some (r.1, 0)) (fun k => by rw [if_pos h2]) (Ev.now _))), HullIs.ok hl hF (.inr ⟨h1, rfl, h3⟩)⟩
    · refine ⟨([], 11), Ev.step (fun k => by simp only [convex_Hull.l0]; rw [if_neg (nlt_cast (by omega))]) (Ev.bind hr (Ev.congr (f := fun _ => some ([], 11)) (fun k => by rw [if_neg (by rw [h2]; simp)]) (Ev.now _))), HullIs.ok hl hF (.inl ⟨h1, rfl⟩)⟩
  | succ n ih =>
    intro i hi hinv
    have hlt : i < l.length := by omega
    by_cases c : Far l[i]
    · obtain ⟨r, hr, h⟩ := ih (i + 1) (by omega) (fun j hj hji => by
        by_cases e : j = i
        · subst e; exact c
        · exact hinv j hj (by omega))
      refine ⟨r, Ev.step (f := fun k => convex_Hull.l0 k l l (l.length : Int) ((i + 1 : Nat) : Int)) (fun k => ?_) hr, h⟩
      simp only [convex_Hull.l0]
      rw [if_pos (lt_cast hlt), if_pos (ge0 i), if_pos (lt_cast hlt), rd_at hlt, near_eq, Option.bind_some, if_pos (by simpa using c), w64s (by omega)]
    · refine ⟨([], 3), Ev.step (f := fun _ => some ([], 3)) (fun k => ?_) (Ev.now _), ?_⟩
      · simp only [convex_Hull.l0]
        rw [if_pos (lt_cast hlt), if_pos (ge0 i), if_pos (lt_cast hlt), rd_at hlt, near_eq, Option.bind_some, if_neg (by simpa using c)]
      · unfold HullIs
        rw [if_neg (by omega), if_pos (not_all hlt c)]
theorem Hull_f (l : List S30) : ∃ r, Ev (fun k => convex_Hull.f k l) r ∧ HullIs l r := by
  by_cases h : 160 < l.length
  · exact ⟨([], 5), Ev.congr (f := fun _ => some ([], 5)) (fun k => by unfold convex_Hull.f; rw [if_pos (by omega)]) (Ev.now _), by unfold HullIs; rw [if_pos h]⟩
  · obtain ⟨r, hr, hres⟩ := Hull_l0 l (by omega) l.length 0 (by omega) (fun j _ hj => by omega)
    exact ⟨r, Ev.congr (fun k => by unfold convex_Hull.f; rw [if_neg (by omega)]; rfl) hr, hres⟩

/-! ### Same -/
theorem same_l0 (a b : List S30) (he : a.length = b.length) (hl : a.length ≤ 10000) (n : Nat) : ∀ i : Nat, i + n = a.length → Ev (fun k => garmentref11_Same.l0 k a b (i : Int)) (decide (a.drop i = b.drop i)) := by
  induction n with
  | zero =>
    intro i hi
    rw [List.drop_of_length_le (by omega), List.drop_of_length_le (by omega)]
    exact Ev.step (f := fun _ => some true) (fun k => by simp only [garmentref11_Same.l0]; rw [if_neg (nlt_cast (by omega))]) (Ev.now _)
  | succ n ih =>
    intro i hi
    have h1 : i < a.length := by omega
    have h2 : i < b.length := by omega
    rw [drop_at h1, drop_at h2]
    by_cases c : a[i].f0 = b[i].f0 ∧ a[i].f1 = b[i].f1
    · have e : a[i] = b[i] := Geo.ext c.1 c.2
      rw [e]
      have hd : decide (b[i] :: a.drop (i + 1) = b[i] :: b.drop (i + 1)) = decide (a.drop (i + 1) = b.drop (i + 1)) := decide_eq_decide.2 ⟨fun h => (List.cons.inj h).2, fun h => by rw [h]⟩
      rw [hd]
      refine Ev.step (f := fun k => garmentref11_Same.l0 k a b ((i + 1 : Nat) : Int)) (fun k => ?_) (ih (i + 1) (by omega))
      simp only [garmentref11_Same.l0]
      rw [if_pos (lt_cast h1), if_pos (ge0 i), if_pos (lt_cast h2), rd_at h1, rd_at h2, if_neg (by simp [c]), w64s (by omega)]
    · have hd : decide (a[i] :: a.drop (i + 1) = b[i] :: b.drop (i + 1)) = false := by
        rw [decide_eq_false_iff_not]
        intro e
        injection e with e _
        exact c (by rw [e]; exact ⟨rfl, rfl⟩)
      rw [hd]
      refine Ev.step (f := fun _ => some false) (fun k => ?_) (Ev.now _)
      simp only [garmentref11_Same.l0]
      rw [if_pos (lt_cast h1), if_pos (ge0 i), if_pos (lt_cast h2), rd_at h1, rd_at h2, if_pos (by simp; omega)]
theorem same_f (a b : List S30) (hl : a.length ≤ 10000) : Ev (fun k => garmentref11_Same.f k a b) (decide (a = b)) := by
  by_cases he : a.length = b.length
  · have := same_l0 a b he hl a.length 0 (by omega)
    rw [List.drop_zero, List.drop_zero] at this
    exact Ev.congr (fun k => by unfold garmentref11_Same.f; rw [if_pos (by omega)]; rfl) this
  · have e : decide (a = b) = false := by
      rw [decide_eq_false_iff_not]
      intro e
      exact he (by rw [e])
    rw [e]
    exact Ev.congr (f := fun _ => some false) (fun k => by unfold garmentref11_Same.f; rw [if_neg (by omega)]) (Ev.now _)

theorem HullIs.len {l : List S30} {r : List S30 × Int} (h : HullIs l r) : r.1.length ≤ 160 := by
  unfold HullIs at h
  split at h
  · rw [h]; simp
  · split at h
    · rw [h]; simp
    · rcases h with ⟨_, h⟩ | ⟨_, _, h⟩
      · rw [h]; simp
      · have := nodup_len h.nodup h.mem
        omega
end Go.Proofs.Ytlnigbhimdphoaa.Z
