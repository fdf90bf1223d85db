/- What the printed functions of chapter 14 come to: the program's hull and the reference's. What the printed functions of chapter 14 come to: the hull with its limits; Same. A hull's own hull; hulls of the same points. What the printed functions of chapter 14 come to: Inside, Negate and Support, the program's. The support is the greatest value of a point. -/
import Derived.Test.YtlnigbhimdphoaaMGeo
import Derived.Test.YtlnigbhimdphoaaCx10
import Derived.Test.YtlnigbhimdphoaaCx11
section
namespace Go.Proofs.Ytlnigbhimdphoaa.Z
open Go Go.RowKit Go.Proofs.Ytlnigbhimdphoaa.C Go.Proofs.Ytlnigbhimdphoaa.Geo Go.Proofs.YtlnigbhimdphoaaW.PrintWords Go.Proofs.YtlnigbhimdphoaaW.PrintMore

theorem awake_100 : garmentlaw14_awake.f 100 = some true := by decide +kernel
theorem awake : Ev (fun k => garmentlaw14_awake.f k) true := Ev.of (fun k => garmentlaw14_awake.mono k) awake_100
theorem awake_then : Ev (fun k => (garmentlaw14_awake.f k).bind fun t => some t) true := Ev.bind awake (Ev.now _)

theorem w64 {i : Int} (h1 : -9223372036854775808 ≤ i) (h2 : i < 9223372036854775808) : wrap64 i = i := by unfold wrap64; omega
theorem rd_at {l : List S30} {i : Nat} (h : i < l.length) : rd_T30 l (i : Int) = l[i] := by
  unfold rd_T30
  rw [Int.toNat_natCast, List.getD_eq_getElem?_getD, List.getElem?_eq_getElem h]
  rfl
theorem drop_at {l : List S30} {i : Nat} (h : i < l.length) : l.drop i = l[i] :: l.drop (i + 1) := List.drop_eq_getElem_cons h
theorem lt_cast {i n : Nat} (h : i < n) : (i : Int) < (n : Int) := by omega
theorem nlt_cast {i n : Nat} (h : n ≤ i) : ¬ (i : Int) < (n : Int) := by omega
theorem ge0 (i : Nat) : (0 : Int) ≤ (i : Int) := by omega
theorem w64s {i : Nat} (h : i < 1000000) : wrap64 ((i : Int) + 1) = ((i + 1 : Nat) : Int) := by rw [w64 (by omega) (by omega)]; rfl

/-! ### Bounds -/
def Far (x : S30) : Prop := (-4194304 ≤ x.f0 ∧ x.f0 ≤ 4194304) ∧ (-4194304 ≤ x.f1 ∧ x.f1 ≤ 4194304)
instance (x : S30) : Decidable (Far x) := inferInstanceAs (Decidable ((-4194304 ≤ x.f0 ∧ x.f0 ≤ 4194304) ∧ (-4194304 ≤ x.f1 ∧ x.f1 ≤ 4194304)))
theorem mul_bound {x y A B : Int} (hx : -A ≤ x ∧ x ≤ A) (hy : -B ≤ y ∧ y ≤ B) : -(A * B) ≤ x * y ∧ x * y ≤ A * B := by
  have h : (x * y).natAbs ≤ A.natAbs * B.natAbs := by
    rw [Int.natAbs_mul]
    exact Nat.mul_le_mul (by omega) (by omega)
  have e : (A * B) = ((A.natAbs * B.natAbs : Nat) : Int) := by
    rw [← Int.natAbs_mul, Int.natAbs_of_nonneg (Int.mul_nonneg (by omega) (by omega))]
  omega
theorem cross_far {a b c : S30} (ha : Far a) (hb : Far b) (hc : Far c) : convex_cross.f a.f0 a.f1 b.f0 b.f1 c.f0 c.f1 = some (cr a b c) := by
  unfold Far at ha hb hc
  have h1 := mul_bound (x := b.f0 - a.f0) (y := c.f1 - a.f1) (A := 8388608) (B := 8388608) (by omega) (by omega)
  have h2 := mul_bound (x := b.f1 - a.f1) (y := c.f0 - a.f0) (A := 8388608) (B := 8388608) (by omega) (by omega)
  unfold convex_cross.f cr
  rw [w64 (i := b.f0 - a.f0) (by omega) (by omega), w64 (i := c.f1 - a.f1) (by omega) (by omega), w64 (i := b.f1 - a.f1) (by omega) (by omega), w64 (i := c.f0 - a.f0) (by omega) (by omega)]
  rw [w64 (i := (b.f0 - a.f0) * (c.f1 - a.f1)) (by omega) (by omega), w64 (i := (b.f1 - a.f1) * (c.f0 - a.f0)) (by omega) (by omega), w64 (by omega) (by omega)]
/-! ### chain -/
theorem chain_l1 (l : List S30) (n i : Int) (s : S30) (hs : Far s) (res : List S30) (N : Nat) : ∀ st : List S30, st.length ≤ N → N ≤ 100000 → (∀ x ∈ st, Far x) →
    Ev (fun k => convex_chain.l0 k (s :: pop s st).reverse l n (wrap64 (i + 1))) res → Ev (fun k => convex_chain.l1 k st.reverse l n i s.f0 s.f1) res
  | [], _, _, _, h => by
    refine Ev.step (f := fun k => convex_chain.l0 k (s :: pop s []).reverse l n (wrap64 (i + 1))) (fun k => ?_) h
    simp only [convex_chain.l1]
    rw [if_neg (by simp)]
    simp [pop]
  | [b], _, _, _, h => by
    refine Ev.step (f := fun k => convex_chain.l0 k (s :: pop s [b]).reverse l n (wrap64 (i + 1))) (fun k => ?_) h
    simp only [convex_chain.l1]
    rw [if_neg (by simp)]
    simp [pop]
  | b :: a :: r, hN, hN2, hF, h => by
    have hlen : ((b :: a :: r).reverse.length : Int) = (r.length : Int) + 2 := by simp
    have hrl : r.length + 2 ≤ N := by simpa using hN
    have e2 : wrap64 (((b :: a :: r).reverse.length : Int) - 2) = ((r.length : Nat) : Int) := by rw [hlen, w64 (by omega) (by omega)]; omega
    have e1 : wrap64 (((b :: a :: r).reverse.length : Int) - 1) = ((r.length + 1 : Nat) : Int) := by rw [hlen, w64 (by omega) (by omega)]; omega
    have g2 : rd_T30 (b :: a :: r).reverse ((r.length : Nat) : Int) = a := by
      rw [rd_at (by simp)]
      simp
    have g1 : rd_T30 (b :: a :: r).reverse ((r.length + 1 : Nat) : Int) = b := by
      rw [rd_at (by simp)]
      simp
    have tk : (b :: a :: r).reverse.take (((r.length + 1 : Nat) : Int)).toNat = (a :: r).reverse := by
      rw [Int.toNat_natCast, List.reverse_cons, List.take_append_of_le_length (by simp), List.take_of_length_le (by simp)]
    have fa : Far a := hF a (by simp)
    have fb : Far b := hF b (by simp)
    by_cases c : cr a b s ≤ 0
    · have ih := chain_l1 l n i s hs res N (a :: r) (by simp; omega) hN2 (fun x hx => hF x (List.mem_cons_of_mem _ hx)) (by
        have : pop s (b :: a :: r) = pop s (a :: r) := by rw [pop]; exact if_pos c
        rwa [this] at h)
      refine Ev.step (f := fun k => convex_chain.l1 k (a :: r).reverse l n i s.f0 s.f1) (fun k => ?_) ih
      simp only [convex_chain.l1]
      rw [if_pos (by omega), e2, if_pos (by omega), if_pos (by omega), e1, if_pos (by omega), if_pos (by omega), g1, g2, cross_far fa fb hs]
      simp only [Option.bind_some]
      rw [if_pos c, if_pos (by omega), tk]
    · have : pop s (b :: a :: r) = b :: a :: r := by rw [pop]; exact if_neg c
      rw [this] at h
      refine Ev.step (f := fun k => convex_chain.l0 k (s :: b :: a :: r).reverse l n (wrap64 (i + 1))) (fun k => ?_) h
      simp only [convex_chain.l1]
      rw [if_pos (by omega), e2, if_pos (by omega), if_pos (by omega), e1, if_pos (by omega), if_pos (by omega), g1, g2, cross_far fa fb hs]
      simp only [Option.bind_some]
      rw [if_neg c, if_pos (by simp; omega)]
      simp

theorem pop_mem (s : S30) : ∀ (st : List S30) (x : S30), x ∈ pop s st → x ∈ st
  | [], _, h => h
  | [_], _, h => h
  | b :: a :: r, x, h => by
    rw [pop] at h
    split at h
    · exact List.mem_cons_of_mem _ (pop_mem s (a :: r) x h)
    · exact h
theorem pop_len (s : S30) : ∀ (st : List S30), (pop s st).length ≤ st.length
  | [] => Nat.le_refl _
  | [_] => Nat.le_refl _
  | b :: a :: r => by
    rw [pop]
    split
    · exact Nat.le_trans (pop_len s (a :: r)) (by simp)
    · exact Nat.le_refl _

theorem chain_l0 (l : List S30) (hl : l.length ≤ 10000) (hF : ∀ x ∈ l, Far x) (hne : l ≠ []) (n : Nat) : ∀ (i : Nat) (st : List S30), i + n = l.length → st.length ≤ i → (∀ x ∈ st, Far x) → (i = 0 ∨ st ≠ []) →
    Ev (fun k => convex_chain.l0 k st.reverse l (l.length : Int) i) ((l.drop i).foldl (fun st s => s :: pop s st) st).tail.reverse := by
  have hlp : 0 < l.length := List.length_pos_iff.2 hne
  induction n with
  | zero =>
    intro i st hi hst hFs h0
    have hsp : 0 < st.length := by
      rcases h0 with h | h
      · omega
      · exact List.length_pos_iff.2 h
    rw [List.drop_of_length_le (by omega), List.foldl_nil]
    refine Ev.step (f := fun _ => some st.tail.reverse) (fun k => ?_) (Ev.now _)
    simp only [convex_chain.l0]
    rw [if_neg (nlt_cast (by omega)), List.length_reverse, w64 (by omega) (by omega), if_pos (by omega), if_pos (by omega)]
    cases st with
    | nil => simp at hsp
    | cons x r =>
      rw [show (((x :: r).length : Int) - 1).toNat = r.reverse.length by simp, List.reverse_cons, List.take_left' rfl]
      rfl
  | succ n ih =>
    intro i st hi hst hFs h0
    have hlt : i < l.length := by omega
    have hs := hF l[i] (List.getElem_mem hlt)
    rw [drop_at hlt, List.foldl_cons]
    refine Ev.step (f := fun k => convex_chain.l1 k st.reverse l (l.length : Int) i l[i].f0 l[i].f1) (fun k => ?_) ?_
    · simp only [convex_chain.l0]
      rw [if_pos (lt_cast hlt), if_pos (ge0 i), if_pos (lt_cast hlt), rd_at hlt]
    · refine chain_l1 l _ i l[i] hs _ st.length st (Nat.le_refl _) (by omega) hFs ?_
      rw [w64s (by omega)]
      refine ih (i + 1) _ (by omega) (by have := pop_len l[i] st; simp; omega) (fun x hx => ?_) (.inr (by simp))
      rcases List.mem_cons.1 hx with rfl | hx
      · exact hs
      · exact hFs x (pop_mem _ _ _ hx)

theorem chain_f (l : List S30) (hl : l.length ≤ 10000) (hF : ∀ x ∈ l, Far x) (hne : l ≠ []) : Ev (fun k => convex_chain.f k l) (Geo.chain l) := by
  have := chain_l0 l hl hF hne l.length 0 [] (by omega) (by simp) (by simp) (.inl rfl)
  exact this

/-! ### hull -/
theorem le_of_far {x : S30} (h : Far x) : moderate x := by unfold Far at h; unfold moderate; omega

open Go.Lib in
/-- Compact of a sorted row: the same points, strictly ascending. -/
theorem compact_sorted (l : List S30) (h : l.Pairwise (fun a b => ¬ lt b a)) : (∀ p, p ∈ compactUpTo l.toArray l.length ↔ p ∈ l) ∧ (compactUpTo l.toArray l.length).Pairwise lt := by
  have get : ∀ j (hj : j < l.length), l.toArray[j]! = l[j] := fun j hj => by simp [hj]
  have key : ∀ m, m ≤ l.length → (∀ p, p ∈ compactUpTo l.toArray m ↔ p ∈ l.take m) ∧ (compactUpTo l.toArray m).Pairwise lt ∧ ∀ (hm : 0 < m), (compactUpTo l.toArray m).getLast? = l[m - 1]? := by
    intro m
    induction m with
    | zero => intro _; exact ⟨by simp [compactUpTo], by simp [compactUpTo], fun h => absurd h (by omega)⟩
    | succ m ih =>
      intro hm
      obtain ⟨i1, i2, i3⟩ := ih (by omega)
      have hml : m < l.length := by omega
      rw [compactUpTo_succ, get m hml]
      have htake : l.take (m + 1) = l.take m ++ [l[m]] := by rw [List.take_add_one, List.getElem?_eq_getElem hml]; rfl
      rw [List.pairwise_iff_getElem] at h
      by_cases hk : keeps l.toArray m = true
      · rw [if_pos hk]
        refine ⟨fun p => by rw [htake, List.mem_append, List.mem_append, i1], ?_, fun _ => by rw [Nat.add_sub_cancel, List.getElem?_eq_getElem hml]; simp⟩
        rw [List.pairwise_append]
        refine ⟨i2, by simp, fun x hx y hy => ?_⟩
        simp at hy
        subst hy
        have hx' := (i1 x).1 hx
        obtain ⟨j, hj, rfl⟩ := List.mem_iff_getElem.1 hx'
        have hjm : j < m := by simp at hj; omega
        rw [List.getElem_take]
        have hm1 : l[m] ≠ l[m - 1] := by
          unfold keeps at hk
          rw [decide_eq_true_eq, get m hml, get (m - 1) (by omega)] at hk
          rcases hk with hk | hk
          · omega
          · exact hk
        have h1 : lt l[m - 1] l[m] := by
          rcases lt_tri l[m - 1] l[m] with h' | h' | h'
          · exact h'
          · exact absurd h'.symm hm1
          · exact absurd h' (h (m - 1) m (by omega) hml (by omega))
        by_cases c : j = m - 1
        · subst c; exact h1
        · exact Geo.lt_of_not (h j (m - 1) (by omega) (by omega) (by omega)) h1
      · rw [if_neg hk, List.append_nil]
        have hk' : m ≠ 0 ∧ l[m] = l[m - 1] := by
          unfold keeps at hk
          rw [decide_eq_true_eq, get m hml] at hk
          by_cases c : m = 0
          · exact absurd (Or.inl c) hk
          · rw [get (m - 1) (by omega)] at hk
            exact ⟨c, Classical.byContradiction fun e => hk (.inr e)⟩
        refine ⟨fun p => ?_, i2, fun _ => ?_⟩
        · rw [htake, List.mem_append, i1]
          refine ⟨.inl, fun h => ?_⟩
          rcases h with h | h
          · exact h
          · simp at h
            subst h
            rw [hk'.2]
            exact List.mem_iff_getElem.2 ⟨m - 1, by simp; omega, by rw [List.getElem_take]⟩
        · rw [i3 (by omega), Nat.add_sub_cancel, List.getElem?_eq_getElem hml, List.getElem?_eq_getElem (by omega), hk'.2]
  have := key l.length (Nat.le_refl _)
  rw [List.take_length] at this
  exact ⟨this.1, this.2.1⟩

/-- what hull hands back: the hull, or that there is none -/
def HullRes (l : List S30) (r : List S30 × Bool) : Prop := (¬ Coll l ∧ r.2 = true ∧ IsHull l r.1) ∨ (Coll l ∧ r.2 = false)

theorem coll_of_mem {l l' : List S30} (h : ∀ p, p ∈ l ↔ p ∈ l') : Coll l ↔ Coll l' :=
  ⟨fun hc p hp q hq r hr => hc p ((h p).2 hp) q ((h q).2 hq) r ((h r).2 hr), fun hc p hp q hq r hr => hc p ((h p).1 hp) q ((h q).1 hq) r ((h r).1 hr)⟩

theorem mem_len {l l' : List S30} (hs : l.Pairwise lt) (h : ∀ p, p ∈ l ↔ p ∈ l') : l.length ≤ l'.length :=
  nodup_len (by unfold List.Nodup; exact List.Pairwise.imp (fun h e => by subst e; exact lt_irrefl _ h) hs) (fun x hx => (h x).1 hx)

theorem hull_f (l : List S30) (hl : l.length ≤ 1000) (hF : ∀ x ∈ l, Far x) : ∃ r, Ev (fun k => convex_hull.f k l) r ∧ HullRes l r := by
  obtain ⟨s, e1, hp, hs⟩ := sort_spots.sorts l (by omega) (fun x hx => le_of_far (hF x hx))
  have hcs := compact_sorted s hs
  have hsl : s.length = l.length := hp.length_eq
  generalize hc : Go.Lib.compactUpTo s.toArray s.length = c at hcs
  have hmem : ∀ p, p ∈ c ↔ p ∈ l := fun p => by rw [hcs.1, hp.mem_iff]
  have hcl : c.length ≤ l.length := mem_len hcs.2 hmem
  have hcF : ∀ x ∈ c, Far x := fun x hx => hF x ((hmem x).1 hx)
  have e2 : compact_spots.f s = some c := by unfold compact_spots.f; rw [if_pos (by omega), hc]
  have e0 : clone_spots.f l = some l := by unfold clone_spots.f; rw [if_pos (by omega)]
  have hpre : ∀ k, convex_hull.f k l = if (c.length : Int) < 3 then (some (([] : List S30), false)) else ((convex_chain.f k c).bind fun t131 => ((reverse_spots.f c).bind fun t134 => ((convex_chain.f k t134).bind fun t135 => (if t131.length + t135.length < 8796093022208 then ((some (t131 ++ t135 : List (S30))).bind fun y138 => (some (y138, decide ((y138.length : Int) > 2)))) else (none))))) := by
    intro k
    unfold convex_hull.f
    rw [e0, Option.bind_some, e1, Option.bind_some, e2, Option.bind_some]
  by_cases h3 : c.length < 3
  · refine ⟨([], false), Ev.congr (f := fun _ => some ([], false)) (fun k => by rw [hpre, if_pos (by omega)]) (Ev.now _), .inr ⟨(coll_of_mem hmem).1 (small_coll h3), rfl⟩⟩
  · have hne : c ≠ [] := by intro e; rw [e] at h3; simp at h3
    have hb : (Geo.chain c).length + (Geo.chain c.reverse).length < 8796093022208 := by
      have cl : ∀ l : List S30, (chainR l).length ≤ l.length := by
        intro l
        unfold chainR
        have : ∀ (l st : List S30), (l.foldl (fun st s => s :: pop s st) st).length ≤ l.length + st.length := by
          intro l
          induction l with
          | nil => intro st; simp
          | cons x r ih => intro st; rw [List.foldl_cons]; have := ih (x :: pop x st); have := pop_len x st; simp at *; omega
        simpa using this l []
      have h1 := cl c
      have h2 := cl c.reverse
      unfold Geo.chain
      simp at *
      omega
    refine ⟨(hullOf c, decide (((hullOf c).length : Int) > 2)), ?_, ?_⟩
    · refine Ev.congr (fun k => by rw [hpre, if_neg (by omega)]) ?_
      refine Ev.bind (chain_f c (by omega) hcF hne) ?_
      refine Ev.congr (f := fun k => (convex_chain.f k c.reverse).bind fun t135 => (if (Geo.chain c).length + t135.length < 8796093022208 then ((some (Geo.chain c ++ t135 : List (S30))).bind fun y138 => (some (y138, decide ((y138.length : Int) > 2)))) else (none))) (fun k => by unfold reverse_spots.f; rw [if_pos (by omega)]; rfl) ?_
      refine Ev.bind (chain_f c.reverse (by simp; omega) (fun x hx => hcF x (by simpa using hx)) (by simpa using hne)) ?_
      refine Ev.congr (f := fun _ => some (hullOf c, decide (((hullOf c).length : Int) > 2))) (fun k => ?_) (Ev.now _)
      rw [if_pos hb]
      rfl
    · by_cases hL : Coll c
      · have := chain_line hcs.2 (by omega) hL
        exact .inr ⟨(coll_of_mem hmem).1 hL, by simp [this]⟩
      · have h := chain_hull hcs.2 hL
        have := h.three
        exact .inl ⟨fun e => hL ((coll_of_mem hmem).2 e), by simp; omega, h.of_mem hmem⟩
end Go.Proofs.Ytlnigbhimdphoaa.Z
end

section
namespace Go.Proofs.Ytlnigbhimdphoaa.Z
open Go Go.RowKit Go.Proofs.Ytlnigbhimdphoaa.C Go.Proofs.Ytlnigbhimdphoaa.Geo Go.Proofs.YtlnigbhimdphoaaW.PrintWords Go.Proofs.YtlnigbhimdphoaaW.PrintMore

theorem Cross_far {a b c : S30} (ha : Far a) (hb : Far b) (hc : Far c) : garmentref11_Cross.f a.f0 a.f1 b.f0 b.f1 c.f0 c.f1 = some (cr a b c) := cross_far ha hb hc

instance (a b : S30) : Decidable (lt a b) := by unfold lt; infer_instance
theorem less_eq (a b : S30) : garmentref11_Less.f a.f0 a.f1 b.f0 b.f1 = some (decide (lt a b)) := by
  unfold garmentref11_Less.f lt
  by_cases h : a.f0 < b.f0
  · rw [if_pos h]; simp [h]
  · rw [if_neg h]
    by_cases h2 : a.f0 = b.f0
    · rw [if_pos h2]; simp [h2]
    · rw [if_neg h2]; simp [h, h2]

/-! ### Hull, both -/
/-- what a hull with its limits is -/
def HullIs (l : List S30) (r : List S30 × Int) : Prop :=
  if 160 < l.length then r = ([], 5) else if ¬ ∀ x ∈ l, Far x then r = ([], 3) else (Coll l ∧ r = ([], 11)) ∨ (¬ Coll l ∧ r.2 = 0 ∧ IsHull l r.1)
theorem HullIs.ok {l : List S30} {r : List S30 × Int} (hl : l.length ≤ 160) (hF : ∀ x ∈ l, Far x) (h : (Coll l ∧ r = ([], 11)) ∨ (¬ Coll l ∧ r.2 = 0 ∧ IsHull l r.1)) : HullIs l r := by
  unfold HullIs
  rw [if_neg (by omega), if_neg (fun h => h hF)]
  exact h
theorem HullIs.unique {l : List S30} {r s : List S30 × Int} (h1 : HullIs l r) (h2 : HullIs l s) : r = s := by
  unfold HullIs at h1 h2
  split at h1
  · rename_i c
    rw [if_pos c] at h2
    rw [h1, h2]
  · rename_i c
    rw [if_neg c] at h2
    split at h1
    · rename_i c2
      rw [if_pos c2] at h2
      rw [h1, h2]
    · rename_i c2
      rw [if_neg c2] at h2
      rcases h1 with ⟨a1, a2⟩ | ⟨a1, a2, a3⟩
      · rcases h2 with ⟨b1, b2⟩ | ⟨b1, b2, b3⟩
        · rw [a2, b2]
        · exact absurd a1 b1
      · rcases h2 with ⟨b1, b2⟩ | ⟨b1, b2, b3⟩
        · exact absurd b1 a1
        · exact Prod.ext (a3.unique b3) (by rw [a2, b2])

theorem within_eq (x : S30) (m : Int) (hm : 0 ≤ m ∧ m ≤ 1000000000) : garmentref11_Within.f x.f0 x.f1 m = some (decide ((-m ≤ x.f0 ∧ x.f0 ≤ m) ∧ (-m ≤ x.f1 ∧ x.f1 ≤ m))) := by
  unfold garmentref11_Within.f
  rw [w64 (by omega) (by omega)]
  by_cases c0 : x.f0 ≥ -m
  · rw [if_pos c0]
    by_cases c1 : x.f0 ≤ m
    · rw [if_pos c1]
      by_cases c2 : x.f1 ≥ -m
      · rw [if_pos c2]; congr 1; rw [decide_eq_decide]; omega
      · rw [if_neg c2]; congr 1; simp; omega
    · rw [if_neg c1]; congr 1; simp; omega
  · rw [if_neg c0]; congr 1; simp; omega
theorem within_far (x : S30) : garmentref11_Within.f x.f0 x.f1 4194304 = some (decide (Far x)) := within_eq x 4194304 (by omega)
theorem near_eq (x : S30) : convex_near.f x.f0 x.f1 = some (decide (Far x)) := by
  have h := within_far x
  unfold garmentref11_Within.f at h
  rw [w64 (by omega) (by omega)] at h
  exact h

theorem not_all {l : List S30} {i : Nat} (hlt : i < l.length) (h : ¬ Far l[i]) : ¬ ∀ x ∈ l, Far x := fun hF => h (hF _ (List.getElem_mem hlt))

theorem Hull_l0 (l : List S30) (hl : l.length ≤ 160) (n : Nat) : ∀ (i : Nat), i + n = l.length → (∀ j (hj : j < l.length), j < i → Far l[j]) →
    ∃ r, Ev (fun k => convex_Hull.l0 k l l (l.length : Int) (i : Int)) r ∧ HullIs l r := by
  induction n with
  | zero =>
    intro i hi hinv
    have hF : ∀ x ∈ l, Far x := fun x hx => by
      obtain ⟨j, hj, rfl⟩ := List.mem_iff_getElem.1 hx
      exact hinv j hj (by omega)
    obtain ⟨r, hr, hres⟩ := hull_f l (by omega) hF
    rcases hres with ⟨h1, h2, h3⟩ | ⟨h1, h2⟩
    · refine ⟨(r.1, 0), Ev.step (fun k => by simp only [convex_Hull.l0]; rw [if_neg (nlt_cast (by omega))]) (Ev.bind hr (Ev.congr (f := fun _ => some (r.1, 0)) (fun k => by rw [if_pos h2]) (Ev.now _))), HullIs.ok hl hF (.inr ⟨h1, rfl, h3⟩)⟩
    · refine ⟨([], 11), Ev.step (fun k => by simp only [convex_Hull.l0]; rw [if_neg (nlt_cast (by omega))]) (Ev.bind hr (Ev.congr (f := fun _ => some ([], 11)) (fun k => by rw [if_neg (by rw [h2]; simp)]) (Ev.now _))), HullIs.ok hl hF (.inl ⟨h1, rfl⟩)⟩
  | succ n ih =>
    intro i hi hinv
    have hlt : i < l.length := by omega
    by_cases c : Far l[i]
    · obtain ⟨r, hr, h⟩ := ih (i + 1) (by omega) (fun j hj hji => by
        by_cases e : j = i
        · subst e; exact c
        · exact hinv j hj (by omega))
      refine ⟨r, Ev.step (f := fun k => convex_Hull.l0 k l l (l.length : Int) ((i + 1 : Nat) : Int)) (fun k => ?_) hr, h⟩
      simp only [convex_Hull.l0]
      rw [if_pos (lt_cast hlt), if_pos (ge0 i), if_pos (lt_cast hlt), rd_at hlt, near_eq, Option.bind_some, if_pos (by simpa using c), w64s (by omega)]
    · refine ⟨([], 3), Ev.step (f := fun _ => some ([], 3)) (fun k => ?_) (Ev.now _), ?_⟩
      · simp only [convex_Hull.l0]
        rw [if_pos (lt_cast hlt), if_pos (ge0 i), if_pos (lt_cast hlt), rd_at hlt, near_eq, Option.bind_some, if_neg (by simpa using c)]
      · unfold HullIs
        rw [if_neg (by omega), if_pos (not_all hlt c)]
theorem Hull_f (l : List S30) : ∃ r, Ev (fun k => convex_Hull.f k l) r ∧ HullIs l r := by
  by_cases h : 160 < l.length
  · exact ⟨([], 5), Ev.congr (f := fun _ => some ([], 5)) (fun k => by unfold convex_Hull.f; rw [if_pos (by omega)]) (Ev.now _), by unfold HullIs; rw [if_pos h]⟩
  · obtain ⟨r, hr, hres⟩ := Hull_l0 l (by omega) l.length 0 (by omega) (fun j _ hj => by omega)
    exact ⟨r, Ev.congr (fun k => by unfold convex_Hull.f; rw [if_neg (by omega)]; rfl) hr, hres⟩

/-! ### Same -/
theorem same_l0 (a b : List S30) (he : a.length = b.length) (hl : a.length ≤ 10000) (n : Nat) : ∀ i : Nat, i + n = a.length → Ev (fun k => garmentref11_Same.l0 k a b (i : Int)) (decide (a.drop i = b.drop i)) := by
  induction n with
  | zero =>
    intro i hi
    rw [List.drop_of_length_le (by omega), List.drop_of_length_le (by omega)]
    exact Ev.step (f := fun _ => some true) (fun k => by simp only [garmentref11_Same.l0]; rw [if_neg (nlt_cast (by omega))]) (Ev.now _)
  | succ n ih =>
    intro i hi
    have h1 : i < a.length := by omega
    have h2 : i < b.length := by omega
    rw [drop_at h1, drop_at h2]
    by_cases c : a[i].f0 = b[i].f0 ∧ a[i].f1 = b[i].f1
    · have e : a[i] = b[i] := Geo.ext c.1 c.2
      rw [e]
      have hd : decide (b[i] :: a.drop (i + 1) = b[i] :: b.drop (i + 1)) = decide (a.drop (i + 1) = b.drop (i + 1)) := decide_eq_decide.2 ⟨fun h => (List.cons.inj h).2, fun h => by rw [h]⟩
      rw [hd]
      refine Ev.step (f := fun k => garmentref11_Same.l0 k a b ((i + 1 : Nat) : Int)) (fun k => ?_) (ih (i + 1) (by omega))
      simp only [garmentref11_Same.l0]
      rw [if_pos (lt_cast h1), if_pos (ge0 i), if_pos (lt_cast h2), rd_at h1, rd_at h2, if_neg (by simp [c]), w64s (by omega)]
    · have hd : decide (a[i] :: a.drop (i + 1) = b[i] :: b.drop (i + 1)) = false := by
        rw [decide_eq_false_iff_not]
        intro e
        injection e with e _
        exact c (by rw [e]; exact ⟨rfl, rfl⟩)
      rw [hd]
      refine Ev.step (f := fun _ => some false) (fun k => ?_) (Ev.now _)
      simp only [garmentref11_Same.l0]
      rw [if_pos (lt_cast h1), if_pos (ge0 i), if_pos (lt_cast h2), rd_at h1, rd_at h2, if_pos (by simp; omega)]
theorem same_f (a b : List S30) (hl : a.length ≤ 10000) : Ev (fun k => garmentref11_Same.f k a b) (decide (a = b)) := by
  by_cases he : a.length = b.length
  · have := same_l0 a b he hl a.length 0 (by omega)
    rw [List.drop_zero, List.drop_zero] at this
    exact Ev.congr (fun k => by unfold garmentref11_Same.f; rw [if_pos (by omega)]; rfl) this
  · have e : decide (a = b) = false := by
      rw [decide_eq_false_iff_not]
      intro e
      exact he (by rw [e])
    rw [e]
    exact Ev.congr (f := fun _ => some false) (fun k => by unfold garmentref11_Same.f; rw [if_neg (by omega)]) (Ev.now _)

theorem HullIs.len {l : List S30} {r : List S30 × Int} (h : HullIs l r) : r.1.length ≤ 160 := by
  unfold HullIs at h
  split at h
  · rw [h]; simp
  · split at h
    · rw [h]; simp
    · rcases h with ⟨_, h⟩ | ⟨_, _, h⟩
      · rw [h]; simp
      · have := nodup_len h.nodup h.mem
        omega
end Go.Proofs.Ytlnigbhimdphoaa.Z
end

section
namespace Go.Proofs.Ytlnigbhimdphoaa.Z
open Go Go.RowKit Go.Proofs.Ytlnigbhimdphoaa.C Go.Proofs.Ytlnigbhimdphoaa.Geo Go.Proofs.YtlnigbhimdphoaaW.PrintWords Go.Proofs.YtlnigbhimdphoaaW.PrintMore

theorem HullIs.zero {l : List S30} {r : List S30 × Int} (h : HullIs l r) (h0 : r.2 = 0) : l.length ≤ 160 ∧ (∀ x ∈ l, Far x) ∧ ¬ Coll l ∧ IsHull l r.1 := by
  unfold HullIs at h
  split at h
  · rw [h] at h0; simp at h0
  · split at h
    · rw [h] at h0; simp at h0
    · rename_i h1 h2
      rcases h with ⟨_, h⟩ | ⟨h3, _, h4⟩
      · rw [h] at h0; simp at h0
      · exact ⟨by omega, Classical.byContradiction h2, h3, h4⟩
theorem HullIs.other {l : List S30} {r : List S30 × Int} (h : HullIs l r) (h0 : r.2 ≠ 0) : r.1 = [] := by
  unfold HullIs at h
  split at h
  · rw [h]
  · split at h
    · rw [h]
    · rcases h with ⟨_, h⟩ | ⟨_, h, _⟩
      · rw [h]
      · exact absurd h h0
theorem HullIs.of_mem {l m : List S30} {r : List S30 × Int} (h : HullIs l r) (hl : l.length ≤ 160) (hm : m.length ≤ 160) (e : ∀ p, p ∈ l ↔ p ∈ m) : HullIs m r := by
  unfold HullIs at h
  rw [if_neg (by omega)] at h
  by_cases hF : ∀ x ∈ l, Far x
  · rw [if_neg (fun h => h hF)] at h
    refine HullIs.ok hm (fun x hx => hF x ((e x).2 hx)) ?_
    rcases h with ⟨h1, h2⟩ | ⟨h1, h2, h3⟩
    · exact .inl ⟨(coll_of_mem e).1 h1, h2⟩
    · exact .inr ⟨fun c => h1 ((coll_of_mem e).2 c), h2, h3.of_mem e⟩
  · rw [if_pos hF] at h
    unfold HullIs
    rw [if_neg (by omega), if_pos (fun h => hF (fun x hx => h x ((e x).1 hx)))]
    exact h

theorem tmod_cast (a b : Nat) : Int.tmod (a : Int) (b : Int) = ((a % b : Nat) : Int) := rfl
theorem rd_nth {h : List S30} {i : Nat} (hp : 0 < h.length) : rd_T30 h (((i % h.length : Nat)) : Int) = nth h i := by
  have := Nat.mod_lt i hp
  rw [rd_at this, ← nth_mod, nth_lt _ _ this]
theorem nth_far {h : List S30} (hF : ∀ x ∈ h, Far x) (hp : 0 < h.length) (i : Nat) : Far (nth h i) := hF _ (nth_mem h i hp)
end Go.Proofs.Ytlnigbhimdphoaa.Z
end

section
namespace Go.Proofs.Ytlnigbhimdphoaa.Z
open Go Go.RowKit Go.Proofs.Ytlnigbhimdphoaa.C Go.Proofs.Ytlnigbhimdphoaa.Geo Go.Proofs.YtlnigbhimdphoaaW.PrintWords Go.Proofs.YtlnigbhimdphoaaW.PrintMore

/-- strictly to the left of all sides -/
def inH (h : List S30) (q : S30) (i : Nat) : Prop := ∀ j, i ≤ j → j < h.length → 0 < cr (nth h j) (nth h (j + 1)) q
instance (h : List S30) (q : S30) (i : Nat) : Decidable (inH h q i) :=
  decidable_of_iff (∀ j, j < h.length → i ≤ j → 0 < cr (nth h j) (nth h (j + 1)) q) ⟨fun H j h1 h2 => H j h2 h1, fun H j h1 h2 => H j h2 h1⟩
theorem inH_end {h : List S30} {q : S30} {i : Nat} (hi : h.length ≤ i) : inH h q i := fun j h1 h2 => by omega
theorem inH_step {h : List S30} {q : S30} {i : Nat} (hi : i < h.length) : inH h q i ↔ (0 < cr (nth h i) (nth h (i + 1)) q ∧ inH h q (i + 1)) :=
  ⟨fun H => ⟨H i (Nat.le_refl _) hi, fun j h1 h2 => H j (by omega) h2⟩, fun H j h1 h2 => by
    by_cases e : j = i
    · subst e; exact H.1
    · exact H.2 j (by omega) h2⟩

theorem inside_l0 (h : List S30) (hl : h.length ≤ 1000) (hF : ∀ x ∈ h, Far x) (q : S30) (hq : Far q) (n : Nat) : ∀ i : Nat, i + n = h.length → Ev (fun k => convex_Inside.l0 k h h (h.length : Int) (i : Int) q.f0 q.f1) (decide (inH h q i), 0) := by
  induction n with
  | zero =>
    intro i hi
    rw [decide_eq_true (inH_end (by omega))]
    exact Ev.step (f := fun _ => some (true, 0)) (fun k => by simp only [convex_Inside.l0]; rw [if_neg (nlt_cast (by omega))]) (Ev.now _)
  | succ n ih =>
    intro i hi
    have hlt : i < h.length := by omega
    have hp : 0 < h.length := by omega
    have hm := Nat.mod_lt (i + 1) hp
    have e1 : h[i] = nth h i := (nth_lt h i hlt).symm
    by_cases c : cr (nth h i) (nth h (i + 1)) q ≤ 0
    · have e : decide (inH h q i) = false := by rw [decide_eq_false_iff_not, inH_step hlt]; omega
      rw [e]
      refine Ev.step (f := fun _ => some (false, 0)) (fun k => ?_) (Ev.now _)
      simp only [convex_Inside.l0]
      rw [if_pos (lt_cast hlt), if_pos (ge0 i), if_pos (lt_cast hlt), if_neg (by omega), w64s (by omega), tmod_cast, if_pos (by omega), if_pos (by omega), rd_at hlt, rd_nth hp, e1, cross_far (nth_far hF hp _) (nth_far hF hp _) hq, Option.bind_some, if_pos c]
    · have e : decide (inH h q i) = decide (inH h q (i + 1)) := decide_eq_decide.2 (by rw [inH_step hlt]; exact ⟨fun h => h.2, fun h => ⟨by omega, h⟩⟩)
      rw [e]
      refine Ev.step (f := fun k => convex_Inside.l0 k h h (h.length : Int) ((i + 1 : Nat) : Int) q.f0 q.f1) (fun k => ?_) (ih (i + 1) (by omega))
      simp only [convex_Inside.l0]
      rw [if_pos (lt_cast hlt), if_pos (ge0 i), if_pos (lt_cast hlt), if_neg (by omega), w64s (by omega), tmod_cast, if_pos (by omega), if_pos (by omega), rd_at hlt, rd_nth hp, e1, cross_far (nth_far hF hp _) (nth_far hF hp _) hq, Option.bind_some, if_neg c]
theorem HullIs.far {l : List S30} {r : List S30 × Int} (h : HullIs l r) : ∀ x ∈ r.1, Far x := by
  unfold HullIs at h
  split at h
  · rw [h]; simp
  · split at h
    · rw [h]; simp
    · rename_i hF
      rcases h with ⟨_, h⟩ | ⟨_, _, h⟩
      · rw [h]; simp
      · intro x hx
        have hF' : ∀ x ∈ l, Far x := Classical.byContradiction hF
        exact hF' x (h.mem x hx)

/-- what Inside hands back, the hull being r -/
def insideOf (r : List S30 × Int) (q : S30) : Bool × Int := if r.2 = 0 then (decide (Far q ∧ inH r.1 q 0), 0) else (false, r.2)
theorem Inside_f {l : List S30} {r : List S30 × Int} (hr : Ev (fun k => convex_Hull.f k l) r) (h : HullIs l r) (q : S30) : Ev (fun k => convex_Inside.f k l q.f0 q.f1) (insideOf r q) := by
  have hlen := h.len
  refine Ev.bind (f := fun k bt151 => (if bt151.2 = 0 then ((convex_near.f q.f0 q.f1).bind fun t155 => (if t155 = true then (convex_Inside.l0 k bt151.1 bt151.1 (bt151.1.length : Int) 0 q.f0 q.f1) else (some (false, 0)))) else (some (false, bt151.2)))) hr ?_
  unfold insideOf
  by_cases c : r.2 = 0
  · rw [if_pos c]
    by_cases cq : Far q
    · have e : decide (Far q ∧ inH r.1 q 0) = decide (inH r.1 q 0) := decide_eq_decide.2 ⟨fun h => h.2, fun h => ⟨cq, h⟩⟩
      rw [e]
      exact Ev.congr (fun k => by rw [if_pos c, near_eq, Option.bind_some, if_pos (by simpa using cq)]; rfl) (inside_l0 r.1 (by omega) h.far q cq r.1.length 0 (by omega))
    · rw [decide_eq_false (fun h => cq h.1)]
      exact Ev.congr (f := fun _ => some (false, 0)) (fun k => by rw [if_pos c, near_eq, Option.bind_some, if_neg (by simpa using cq)]) (Ev.now _)
  · rw [if_neg c]
    exact Ev.congr (f := fun _ => some (false, r.2)) (fun k => by rw [if_neg c]) (Ev.now _)
/-! ### Negate -/
def negW (x : S30) : S30 := ⟨wrap64 (-x.f0), wrap64 (-x.f1)⟩
theorem negate_l0 (l : List S30) (hl : l.length ≤ 1000) (n : Nat) : ∀ (i : Nat) (out : List S30), i + n = l.length → out.length ≤ i → Ev (fun k => convex_Negate.l0 k out l (l.length : Int) (i : Int)) (out ++ (l.drop i).map negW) := by
  induction n with
  | zero =>
    intro i out hi ho
    rw [List.drop_of_length_le (by omega), List.map_nil, List.append_nil]
    exact Ev.step (f := fun _ => some out) (fun k => by simp only [convex_Negate.l0]; rw [if_neg (nlt_cast (by omega))]) (Ev.now _)
  | succ n ih =>
    intro i out hi ho
    have hlt : i < l.length := by omega
    have := ih (i + 1) (out ++ [negW l[i]]) (by omega) (by simp; omega)
    rw [drop_at hlt, List.map_cons]
    rw [List.append_assoc, List.singleton_append] at this
    refine Ev.step (fun k => ?_) this
    simp only [convex_Negate.l0]
    rw [if_pos (lt_cast hlt), if_pos (ge0 i), if_pos (lt_cast hlt), if_pos (by omega), rd_at hlt, w64s (by omega)]
    rfl
theorem Negate_f (l : List S30) (hl : l.length ≤ 1000) : Ev (fun k => convex_Negate.f k l) (l.map negW) := by
  have := negate_l0 l hl l.length 0 [] (by omega) (by simp)
  rw [List.nil_append, List.drop_zero] at this
  exact Ev.congr (fun k => by unfold convex_Negate.f; rw [if_pos (by omega), if_pos (by omega)]; rfl) this
/-! ### Support -/
def lim (a b_ : Int) : Int := mx (wrap64 (-b_)) (mn a b_)
theorem limit_eq (a b_ : Int) : convex_limit.f a b_ = some (lim a b_) := rfl
def val (x y : Int) (p : S30) : Int := wrap64 ((wrap64 (lim p.f0 4194304 * x)) + (wrap64 (lim p.f1 4194304 * y)))
/-- the greatest so far -/
def sup (x y : Int) : List S30 → Bool → Int → Int
  | [], _, b => b
  | p :: r, first, b => sup x y r false (if first then val x y p else if val x y p > b then val x y p else b)
theorem support_l0 (l : List S30) (hl : l.length ≤ 1000) (x y : Int) (n : Nat) : ∀ (i : Nat) (b : Int), i + n = l.length → Ev (fun k => convex_Support.l0 k x y b l (l.length : Int) (i : Int)) (sup x y (l.drop i) (decide (i = 0)) b) := by
  induction n with
  | zero =>
    intro i b hi
    rw [List.drop_of_length_le (by omega)]
    exact Ev.step (f := fun _ => some b) (fun k => by simp only [convex_Support.l0]; rw [if_neg (nlt_cast (by omega))]) (Ev.now _)
  | succ n ih =>
    intro i b hi
    have hlt : i < l.length := by omega
    have ih := ih (i + 1) (if decide (i = 0) then val x y l[i] else if val x y l[i] > b then val x y l[i] else b) (by omega)
    rw [decide_eq_false (show ¬ i + 1 = 0 by omega)] at ih
    rw [drop_at hlt, sup]
    refine Ev.step (fun k => ?_) ih
    simp only [convex_Support.l0]
    rw [if_pos (lt_cast hlt), if_pos (ge0 i), if_pos (lt_cast hlt), rd_at hlt, limit_eq, Option.bind_some, limit_eq, Option.bind_some, w64s (by omega)]
    have e : wrap64 ((wrap64 (lim l[i].f0 4194304 * x)) + (wrap64 (lim l[i].f1 4194304 * y))) = val x y l[i] := rfl
    rw [e]
    by_cases c : i = 0
    · rw [if_pos (by omega), decide_eq_true c, if_pos rfl]
    · rw [if_neg (show ¬ (i : Int) = 0 by omega)]
      simp only [c, decide_false, Bool.false_eq_true, if_false]
      by_cases c2 : val x y l[i] > b
      · rw [if_pos c2, if_pos c2]
      · rw [if_neg c2, if_neg c2]
def supOf (l : List S30) (x y : Int) : Int := sup (lim x 1000) (lim y 1000) l true 0
theorem Support_f (l : List S30) (hl : l.length ≤ 1000) (x y : Int) : Ev (fun k => convex_Support.f k l x y) (supOf l x y) := by
  have := support_l0 l hl (lim x 1000) (lim y 1000) l.length 0 0 (by omega)
  rw [List.drop_zero, decide_eq_true rfl] at this
  exact Ev.congr (fun k => by unfold convex_Support.f; rw [limit_eq, Option.bind_some, limit_eq, Option.bind_some]; rfl) this
end Go.Proofs.Ytlnigbhimdphoaa.Z
end

section
namespace Go.Proofs.Ytlnigbhimdphoaa.Z
open Go Go.RowKit Go.Proofs.Ytlnigbhimdphoaa.C Go.Proofs.Ytlnigbhimdphoaa.Geo Go.Proofs.YtlnigbhimdphoaaW.PrintWords Go.Proofs.YtlnigbhimdphoaaW.PrintMore
end Go.Proofs.Ytlnigbhimdphoaa.Z
end
