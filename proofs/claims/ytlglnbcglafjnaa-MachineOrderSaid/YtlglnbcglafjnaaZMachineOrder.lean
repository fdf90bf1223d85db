/- The law MachineOrder: the order of the stops, stops of other machines and stops within others do not matter. -/
import Derived.Test.YtlglnbcglafjnaaZFin
import Derived.Test.YtlglnbcglafjnaaMqMachineOrder
namespace Go.Proofs.Ytlglnbcglafjnaa.Z
open Go Go.RowKit Go.Proofs.Ytlglnbcglafjnaa.M Go.Proofs.YtlglnbcglafjnaaW.PrintWords
/-- Finish tells the same of two valid lists that are down at the same times -/
theorem fin_same (l q : List S36) (m s n : Int) (hl : chk l = 0) (hq : chk q = 0) (h : ∀ t, dn l m t = dn q m t) : ∃ r, Ev (fun k => machine_Finish.f k l m s n) r ∧ Ev (fun k => machine_Finish.f k q m s n) r := by
  by_cases hf : fits s n
  · obtain ⟨a, a1, a2, _⟩ := fin_ev l m s n hl hf
    obtain ⟨b, b1, b2, _⟩ := fin_ev q m s n hq hf
    have := fin_unique _ (fin_congr a2 (fun t _ => h t)) b2
    subst this
    exact ⟨_, a1, b1⟩
  · exact ⟨_, fin_bad l m s n hl hf, fin_bad q m s n hq hf⟩

theorem order_l1 (l : List S36) (hl : l.length ≤ 19) (m s n : Int) (d : S36) (hc0 : chk l = 0) (hc1 : chk (d :: l) = 0) (h : ∀ t, dn (d :: l) m t = dn l m t) (q : Nat) : ∀ (acc : List S36), q ≤ l.length → acc = d :: (l.drop q).reverse →
    Ev (fun k => garmentlaw48_MachineOrder.l1 k l m s n acc ((q : Int) - 1)) true := by
  induction q with
  | zero =>
    intro acc _ ha
    have hmem : ∀ x, x ∈ acc ↔ x ∈ d :: l := by
      intro x
      rw [ha]
      simp
    have hacc : chk acc = 0 := by
      have := chk_len hc1
      unfold chk
      rw [if_neg (by rw [ha]; simp; omega), if_pos (fun x hx => this.2 x ((hmem x).1 hx))]
    have hdn : ∀ t, dn l m t = dn acc m t := fun t => by
      rw [← h t, Bool.eq_iff_iff, dn_iff, dn_iff]
      constructor
      · rintro ⟨x, hx, r⟩; exact ⟨x, (hmem x).2 hx, r⟩
      · rintro ⟨x, hx, r⟩; exact ⟨x, (hmem x).1 hx, r⟩
    obtain ⟨r, r1, r2⟩ := fin_same l acc m s n hc0 hacc hdn
    refine Ev.step (fun k => by simp only [garmentlaw48_MachineOrder.l1]; rw [if_neg (by omega)]) ?_
    refine Ev.bind r1 ?_
    refine Ev.bind r2 ?_
    refine Ev.congr (f := fun k => (machine_Lost.f k l m s n).bind fun t240 => (machine_Lost.f k acc m s n).bind fun t241 => if t240 = t241 then (garmentlaw48_awake.f k).bind fun t242 => some t242 else some false) (fun k => by
      rw [if_pos rfl, if_pos rfl, up_f, up_f]
      simp only [Option.bind_some]
      rw [hdn s, if_pos (by simp)]) ?_
    have hal : acc.length ≤ 1000 := by have := (chk_len hacc).1; omega
    refine Ev.bind (lost_ev l (by omega) m s n) ?_
    refine Ev.bind (lost_ev acc hal m s n) ?_
    rw [lost_congr (p := dn l m) (q := dn acc m) (fun t _ _ => hdn t)]
    exact Ev.congr (fun k => by rw [if_pos rfl]) awake_then
  | succ q ih =>
    intro acc hq ha
    have hlt : q < l.length := by omega
    have e : (((q + 1 : Nat) : Int) - 1) = (q : Int) := by omega
    rw [e]
    refine Ev.step (fun k => ?_) (ih (acc ++ [l[q]]) (by omega) (by rw [ha]; simp only [drop_at hlt, List.reverse_cons, List.cons_append]))
    simp only [garmentlaw48_MachineOrder.l1]
    rw [if_pos (ge0 q), if_pos (ge0 q), if_pos (lt_cast hlt), if_pos (by rw [ha]; simp; omega), rd_at hlt, w64 (by omega) (by omega)]

/-- is d a stop of another machine, or within one of the stops of l from i on? -/
def inner (m : Int) (d : S36) (x : S36) : Bool := x.f0 == m && (decide (x.f1 ≤ d.f1) && decide (d.f2 ≤ x.f2))
theorem order_l0 (l : List S36) (hl : l.length ≤ 19) (m s n : Int) (d : S36) (hc0 : chk l = 0) (hc1 : chk (d :: l) = 0) (q : Nat) : ∀ (i : Nat) (b : Bool), i + q = l.length →
    (b = true → ∀ t, dn (d :: l) m t = dn l m t) → Ev (fun k => garmentlaw48_MachineOrder.l0 k l m s n b i d.f0 d.f1 d.f2) true := by
  induction q with
  | zero =>
    intro i b hi hb
    cases b with
    | true =>
      refine Ev.step (f := fun k => garmentlaw48_MachineOrder.l1 k l m s n [(⟨d.f0, d.f1, d.f2⟩ : S36)] ((l.length : Int) - 1)) (fun k => ?_) (order_l1 l hl m s n d hc0 hc1 (hb rfl) l.length _ (Nat.le_refl _) (by simp))
      simp only [garmentlaw48_MachineOrder.l0]
      rw [if_neg (nlt_cast (by omega)), if_pos trivial, w64 (by omega) (by omega)]
    | false =>
      refine Ev.step (fun k => ?_) awake_then
      simp only [garmentlaw48_MachineOrder.l0]
      rw [if_neg (nlt_cast (by omega)), if_neg (by simp)]
  | succ q ih =>
    intro i b hi hb
    have hlt : i < l.length := by omega
    cases b with
    | true =>
      refine Ev.step (fun k => ?_) (ih (i + 1) true (by omega) hb)
      simp only [garmentlaw48_MachineOrder.l0]
      rw [if_pos (lt_cast hlt), if_pos trivial, w64s (by omega) hlt]
    | false =>
      by_cases c : inner m d l[i] = true
      · have hin : ∀ t, dn (d :: l) m t = dn l m t := fun t => by
          rw [dn_cons, Bool.eq_iff_iff, Bool.or_eq_true]
          constructor
          · rintro (h | h)
            · rw [dn_iff]
              refine ⟨l[i], List.getElem_mem hlt, ?_⟩
              simp only [inner, covers, Bool.and_eq_true, beq_iff_eq, decide_eq_true_eq] at c h
              exact ⟨c.1, by omega, by omega⟩
            · exact h
          · exact .inr
        refine Ev.step (fun k => ?_) (ih (i + 1) true (by omega) (fun _ => hin))
        simp only [inner, Bool.and_eq_true, beq_iff_eq, decide_eq_true_eq] at c
        simp only [garmentlaw48_MachineOrder.l0]
        rw [if_pos (lt_cast hlt), if_neg (by simp), if_pos (ge0 i), rd_at hlt, if_pos c.1, if_pos c.2.1, decide_eq_true c.2.2, w64s (by omega) hlt]
      · refine Ev.step (fun k => ?_) (ih (i + 1) false (by omega) (fun h => by cases h))
        simp only [inner, Bool.and_eq_true, beq_iff_eq, decide_eq_true_eq] at c
        simp only [garmentlaw48_MachineOrder.l0]
        rw [if_pos (lt_cast hlt), if_neg (by simp), if_pos (ge0 i), rd_at hlt, w64s (by omega) hlt]
        by_cases c1 : l[i].f0 = m
        · by_cases c2 : l[i].f1 ≤ d.f1
          · rw [if_pos c1, if_pos c2, decide_eq_false (fun c3 => c ⟨c1, c2, c3⟩)]
          · rw [if_pos c1, if_neg c2]
        · rw [if_neg c1]

theorem MachineOrder : MachineOrder.Pure := by
  intro l m s n d0 d1 d2 _ _ _ _ _
  refine Ev.rounds ?_
  unfold garmentlaw48_MachineOrder.f
  have hj : Ev (fun k => garmentlaw48_MachineOrder.j0 k l m s n true d0 d1 d2) true := Ev.step (fun k => by simp only [garmentlaw48_MachineOrder.j0]; rw [if_pos trivial]) awake_then
  by_cases h : (l.length : Int) > 19
  · exact Ev.congr (fun k => by rw [if_pos h]) hj
  · refine Ev.congr (f := fun k => (machine_Check.f k ([(⟨d0, d1, d2⟩ : S36)] ++ l)).bind fun t221 => garmentlaw48_MachineOrder.j0 k l m s n (t221 != 0) d0 d1 d2) (fun k => by rw [if_neg h]; simp only [Option.bind_some]; rw [if_pos (by simp; omega)]) ?_
    refine Ev.bind (check_ev _) ?_
    by_cases hc : chk ([(⟨d0, d1, d2⟩ : S36)] ++ l) = 0
    · obtain ⟨hlen, hok⟩ := chk_len hc
      have hc0 : chk l = 0 := by
        unfold chk
        rw [if_neg (by simp at hlen; omega), if_pos (fun d hd => hok d (by simp [hd]))]
      refine Ev.step (f := fun k => garmentlaw48_MachineOrder.l0 k l m s n (d0 != m) ((0 : Nat) : Int) d0 d1 d2) (fun k => by simp only [garmentlaw48_MachineOrder.j0]; rw [hc, if_neg (by simp)]; rfl) ?_
      refine order_l0 l (by omega) m s n ⟨d0, d1, d2⟩ hc0 hc l.length 0 (d0 != m) (by omega) (fun hb t => ?_)
      rw [dn_cons]
      have : covers m t ⟨d0, d1, d2⟩ = false := by
        unfold covers
        have h1 : (d0 == m) = false := by simpa using hb
        rw [h1, Bool.false_and]
      rw [this, Bool.false_or]
    · refine Ev.congr (fun k => by rw [show (chk ([(⟨d0, d1, d2⟩ : S36)] ++ l) != 0) = true by simpa using hc]) hj
end Go.Proofs.Ytlglnbcglafjnaa.Z
