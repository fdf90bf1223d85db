/- A hull's own hull; hulls of the same points. -/
import Derived.Test.YtlnigbhimdphoaaMLinksB
namespace Go.Proofs.Ytlnigbhimdphoaa.Z
open Go Go.RowKit Go.Proofs.Ytlnigbhimdphoaa.C Go.Proofs.Ytlnigbhimdphoaa.Geo Go.Proofs.YtlnigbhimdphoaaW.PrintWords Go.Proofs.YtlnigbhimdphoaaW.PrintMore

theorem HullIs.zero {l : List S30} {r : List S30 × Int} (h : HullIs l r) (h0 : r.2 = 0) : l.length ≤ 160 ∧ (∀ x ∈ l, Far x) ∧ ¬ Coll l ∧ IsHull l r.1 := by
  unfold HullIs at h
  split at h
  · rw [h] at h0; simp at h0
  · split at h
    · rw [h] at h0; simp at h0
    · rename_i h1 h2
      rcases h with ⟨_, h⟩ | ⟨h3, _, h4⟩
      · rw [h] at h0; simp at h0
      · exact ⟨by omega, Classical.byContradiction h2, h3, h4⟩
theorem HullIs.other {l : List S30} {r : List S30 × Int} (h : HullIs l r) (h0 : r.2 ≠ 0) : r.1 = [] := by
  unfold HullIs at h
  split at h
  · rw [h]
  · split at h
    · rw [h]
    · rcases h with ⟨_, h⟩ | ⟨_, h, _⟩
      · rw [h]
      · exact absurd h h0
theorem not_coll_of {L H : List S30} (h : IsHull L H) {M : List S30} (hm : ∀ v ∈ H, v ∈ M) : ¬ Coll M := by
  intro hc
  have t := h.turn 0
  have m := fun i => hm _ (nth_mem H i h.pos)
  rw [hc _ (m 0) _ (m 1) _ (m 2)] at t
  omega
theorem HullIs.again {l : List S30} {r : List S30 × Int} (h : HullIs l r) (h0 : r.2 = 0) : HullIs r.1 (r.1, 0) := by
  obtain ⟨h1, h2, h3, h4⟩ := h.zero h0
  exact HullIs.ok h.len (fun x hx => h2 x (h4.mem x hx)) (.inr ⟨not_coll_of h4 (fun _ h => h), rfl, h4.self⟩)
theorem HullIs.of_mem {l m : List S30} {r : List S30 × Int} (h : HullIs l r) (hl : l.length ≤ 160) (hm : m.length ≤ 160) (e : ∀ p, p ∈ l ↔ p ∈ m) : HullIs m r := by
  unfold HullIs at h
  rw [if_neg (by omega)] at h
  by_cases hF : ∀ x ∈ l, Far x
  · rw [if_neg (fun h => h hF)] at h
    refine HullIs.ok hm (fun x hx => hF x ((e x).2 hx)) ?_
    rcases h with ⟨h1, h2⟩ | ⟨h1, h2, h3⟩
    · exact .inl ⟨(coll_of_mem e).1 h1, h2⟩
    · exact .inr ⟨fun c => h1 ((coll_of_mem e).2 c), h2, h3.of_mem e⟩
  · rw [if_pos hF] at h
    unfold HullIs
    rw [if_neg (by omega), if_pos (fun h => hF (fun x hx => h x ((e x).1 hx)))]
    exact h

theorem tmod_cast (a b : Nat) : Int.tmod (a : Int) (b : Int) = ((a % b : Nat) : Int) := rfl
theorem rd_nth {h : List S30} {i : Nat} (hp : 0 < h.length) : rd_T30 h (((i % h.length : Nat)) : Int) = nth h i := by
  have := Nat.mod_lt i hp
  rw [rd_at this, ← nth_mod, nth_lt _ _ this]
theorem nth_far {h : List S30} (hF : ∀ x ∈ h, Far x) (hp : 0 < h.length) (i : Nat) : Far (nth h i) := hF _ (nth_mem h i hp)
end Go.Proofs.Ytlnigbhimdphoaa.Z
