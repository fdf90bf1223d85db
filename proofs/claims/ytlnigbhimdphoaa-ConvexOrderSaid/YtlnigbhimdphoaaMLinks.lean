/- What the printed functions of chapter 14 come to: the program's hull and the reference's. -/
import Derived.Test.YtlnigbhimdphoaaMArcs
import Derived.Test.YtlnigbhimdphoaaCx10
namespace Go.Proofs.Ytlnigbhimdphoaa.Z
open Go Go.RowKit Go.Proofs.Ytlnigbhimdphoaa.C Go.Proofs.Ytlnigbhimdphoaa.Geo Go.Proofs.YtlnigbhimdphoaaW.PrintWords Go.Proofs.YtlnigbhimdphoaaW.PrintMore

theorem awake_100 : garmentlaw14_awake.f 100 = some true := by decide +kernel
theorem awake : Ev (fun k => garmentlaw14_awake.f k) true := Ev.of (fun k => garmentlaw14_awake.mono k) awake_100
theorem awake_then : Ev (fun k => (garmentlaw14_awake.f k).bind fun t => some t) true := Ev.bind awake (Ev.now _)

theorem w64 {i : Int} (h1 : -9223372036854775808 ≤ i) (h2 : i < 9223372036854775808) : wrap64 i = i := by unfold wrap64; omega
theorem rd_at {l : List S30} {i : Nat} (h : i < l.length) : rd_T30 l (i : Int) = l[i] := by
  unfold rd_T30
  rw [Int.toNat_natCast, List.getD_eq_getElem?_getD, List.getElem?_eq_getElem h]
  rfl
theorem drop_at {l : List S30} {i : Nat} (h : i < l.length) : l.drop i = l[i] :: l.drop (i + 1) := List.drop_eq_getElem_cons h
theorem lt_cast {i n : Nat} (h : i < n) : (i : Int) < (n : Int) := by omega
theorem nlt_cast {i n : Nat} (h : n ≤ i) : ¬ (i : Int) < (n : Int) := by omega
theorem ge0 (i : Nat) : (0 : Int) ≤ (i : Int) := by omega
theorem w64s {i : Nat} (h : i < 1000000) : wrap64 ((i : Int) + 1) = ((i + 1 : Nat) : Int) := by rw [w64 (by omega) (by omega)]; rfl

/-! ### Bounds -/
def Far (x : S30) : Prop := (-4194304 ≤ x.f0 ∧ x.f0 ≤ 4194304) ∧ (-4194304 ≤ x.f1 ∧ x.f1 ≤ 4194304)
instance (x : S30) : Decidable (Far x) := inferInstanceAs (Decidable ((-4194304 ≤ x.f0 ∧ x.f0 ≤ 4194304) ∧ (-4194304 ≤ x.f1 ∧ x.f1 ≤ 4194304)))
theorem mul_bound {x y A B : Int} (hx : -A ≤ x ∧ x ≤ A) (hy : -B ≤ y ∧ y ≤ B) : -(A * B) ≤ x * y ∧ x * y ≤ A * B := by
  have h : (x * y).natAbs ≤ A.natAbs * B.natAbs := by
    rw [Int.natAbs_mul]
    exact Nat.mul_le_mul (by omega) (by omega)
  have e : (A * B) = ((A.natAbs * B.natAbs : Nat) : Int) := by
    rw [← Int.natAbs_mul, Int.natAbs_of_nonneg (Int.mul_nonneg (by omega) (by omega))]
  omega
theorem cross_far {a b c : S30} (ha : Far a) (hb : Far b) (hc : Far c) : convex_cross.f a.f0 a.f1 b.f0 b.f1 c.f0 c.f1 = some (cr a b c) := by
  unfold Far at ha hb hc
  have h1 := mul_bound (x := b.f0 - a.f0) (y := c.f1 - a.f1) (A := 8388608) (B := 8388608) (by omega) (by omega)
  have h2 := mul_bound (x := b.f1 - a.f1) (y := c.f0 - a.f0) (A := 8388608) (B := 8388608) (by omega) (by omega)
  unfold convex_cross.f cr
  rw [w64 (i := b.f0 - a.f0) (by omega) (by omega), w64 (i := c.f1 - a.f1) (by omega) (by omega), w64 (i := b.f1 - a.f1) (by omega) (by omega), w64 (i := c.f0 - a.f0) (by omega) (by omega)]
  rw [w64 (i := (b.f0 - a.f0) * (c.f1 - a.f1)) (by omega) (by omega), w64 (i := (b.f1 - a.f1) * (c.f0 - a.f0)) (by omega) (by omega), w64 (by omega) (by omega)]
/-! ### chain -/
theorem snoc2 (r : List S30) (a b : S30) : (b :: a :: r).reverse = r.reverse ++ [a, b] := by simp
theorem chain_l1 (l : List S30) (n i : Int) (s : S30) (hs : Far s) (res : List S30) (N : Nat) : ∀ st : List S30, st.length ≤ N → N ≤ 100000 → (∀ x ∈ st, Far x) →
    Ev (fun k => convex_chain.l0 k (s :: pop s st).reverse l n (wrap64 (i + 1))) res → Ev (fun k => convex_chain.l1 k st.reverse l n i s.f0 s.f1) res
  | [], _, _, _, h => by
    refine Ev.step (f := fun k => convex_chain.l0 k (s :: pop s []).reverse l n (wrap64 (i + 1))) (fun k => ?_) h
    simp only [convex_chain.l1]
    rw [if_neg (by simp)]
    simp [pop]
  | [b], _, _, _, h => by
    refine Ev.step (f := fun k => convex_chain.l0 k (s :: pop s [b]).reverse l n (wrap64 (i + 1))) (fun k => ?_) h
    simp only [convex_chain.l1]
    rw [if_neg (by simp)]
    simp [pop]
  | b :: a :: r, hN, hN2, hF, h => by
    have hlen : ((b :: a :: r).reverse.length : Int) = (r.length : Int) + 2 := by simp
    have hrl : r.length + 2 ≤ N := by simpa using hN
    have e2 : wrap64 (((b :: a :: r).reverse.length : Int) - 2) = ((r.length : Nat) : Int) := by rw [hlen, w64 (by omega) (by omega)]; omega
    have e1 : wrap64 (((b :: a :: r).reverse.length : Int) - 1) = ((r.length + 1 : Nat) : Int) := by rw [hlen, w64 (by omega) (by omega)]; omega
    have g2 : rd_T30 (b :: a :: r).reverse ((r.length : Nat) : Int) = a := by
      rw [rd_at (by simp)]
      simp
    have g1 : rd_T30 (b :: a :: r).reverse ((r.length + 1 : Nat) : Int) = b := by
      rw [rd_at (by simp)]
      simp
    have tk : (b :: a :: r).reverse.take (((r.length + 1 : Nat) : Int)).toNat = (a :: r).reverse := by
      rw [Int.toNat_natCast, List.reverse_cons, List.take_append_of_le_length (by simp), List.take_of_length_le (by simp)]
    have fa : Far a := hF a (by simp)
    have fb : Far b := hF b (by simp)
    by_cases c : cr a b s ≤ 0
    · have ih := chain_l1 l n i s hs res N (a :: r) (by simp; omega) hN2 (fun x hx => hF x (List.mem_cons_of_mem _ hx)) (by
        have : pop s (b :: a :: r) = pop s (a :: r) := by rw [pop]; exact if_pos c
        rwa [this] at h)
      refine Ev.step (f := fun k => convex_chain.l1 k (a :: r).reverse l n i s.f0 s.f1) (fun k => ?_) ih
      simp only [convex_chain.l1]
      rw [if_pos (by omega), e2, if_pos (by omega), if_pos (by omega), e1, if_pos (by omega), if_pos (by omega), g1, g2, cross_far fa fb hs]
      simp only [Option.bind_some]
      rw [if_pos c, if_pos (by omega), tk]
    · have : pop s (b :: a :: r) = b :: a :: r := by rw [pop]; exact if_neg c
      rw [this] at h
      refine Ev.step (f := fun k => convex_chain.l0 k (s :: b :: a :: r).reverse l n (wrap64 (i + 1))) (fun k => ?_) h
      simp only [convex_chain.l1]
      rw [if_pos (by omega), e2, if_pos (by omega), if_pos (by omega), e1, if_pos (by omega), if_pos (by omega), g1, g2, cross_far fa fb hs]
      simp only [Option.bind_some]
      rw [if_neg c, if_pos (by simp; omega)]
      simp

theorem pop_mem (s : S30) : ∀ (st : List S30) (x : S30), x ∈ pop s st → x ∈ st
  | [], _, h => h
  | [_], _, h => h
  | b :: a :: r, x, h => by
    rw [pop] at h
    split at h
    · exact List.mem_cons_of_mem _ (pop_mem s (a :: r) x h)
    · exact h
theorem pop_len (s : S30) : ∀ (st : List S30), (pop s st).length ≤ st.length
  | [] => Nat.le_refl _
  | [_] => Nat.le_refl _
  | b :: a :: r => by
    rw [pop]
    split
    · exact Nat.le_trans (pop_len s (a :: r)) (by simp)
    · exact Nat.le_refl _

theorem chain_l0 (l : List S30) (hl : l.length ≤ 10000) (hF : ∀ x ∈ l, Far x) (hne : l ≠ []) (n : Nat) : ∀ (i : Nat) (st : List S30), i + n = l.length → st.length ≤ i → (∀ x ∈ st, Far x) → (i = 0 ∨ st ≠ []) →
    Ev (fun k => convex_chain.l0 k st.reverse l (l.length : Int) i) ((l.drop i).foldl (fun st s => s :: pop s st) st).tail.reverse := by
  have hlp : 0 < l.length := List.length_pos_iff.2 hne
  induction n with
  | zero =>
    intro i st hi hst hFs h0
    have hsp : 0 < st.length := by
      rcases h0 with h | h
      · omega
      · exact List.length_pos_iff.2 h
    rw [List.drop_of_length_le (by omega), List.foldl_nil]
    refine Ev.step (f := fun _ => some st.tail.reverse) (fun k => ?_) (Ev.now _)
    simp only [convex_chain.l0]
    rw [if_neg (nlt_cast (by omega)), List.length_reverse, w64 (by omega) (by omega), if_pos (by omega), if_pos (by omega)]
    cases st with
    | nil => simp at hsp
    | cons x r =>
      rw [show (((x :: r).length : Int) - 1).toNat = r.reverse.length by simp, List.reverse_cons, List.take_left' rfl]
      rfl
  | succ n ih =>
    intro i st hi hst hFs h0
    have hlt : i < l.length := by omega
    have hs := hF l[i] (List.getElem_mem hlt)
    rw [drop_at hlt, List.foldl_cons]
    refine Ev.step (f := fun k => convex_chain.l1 k st.reverse l (l.length : Int) i l[i].f0 l[i].f1) (fun k => ?_) ?_
    · simp only [convex_chain.l0]
      rw [if_pos (lt_cast hlt), if_pos (ge0 i), if_pos (lt_cast hlt), rd_at hlt]
    · refine chain_l1 l _ i l[i] hs _ st.length st (Nat.le_refl _) (by omega) hFs ?_
      rw [w64s (by omega)]
      refine ih (i + 1) _ (by omega) (by have := pop_len l[i] st; simp; omega) (fun x hx => ?_) (.inr (by simp))
      rcases List.mem_cons.1 hx with rfl | hx
      · exact hs
      · exact hFs x (pop_mem _ _ _ hx)

theorem chain_f (l : List S30) (hl : l.length ≤ 10000) (hF : ∀ x ∈ l, Far x) (hne : l ≠ []) : Ev (fun k => convex_chain.f k l) (Geo.chain l) := by
  have := chain_l0 l hl hF hne l.length 0 [] (by omega) (by simp) (by simp) (.inl rfl)
  exact this

/-! ### hull -/
theorem lexLt_iff (a b : S30) : lexLt a b ↔ lt a b := Iff.rfl
theorem le_of_far {x : S30} (h : Far x) : moderate x := by unfold Far at h; unfold moderate; omega

open Go.Lib in
/-- Compact of a sorted row: the same points, strictly ascending. -/
theorem compact_sorted (l : List S30) (h : l.Pairwise (fun a b => ¬ lt b a)) : (∀ p, p ∈ compactUpTo l.toArray l.length ↔ p ∈ l) ∧ (compactUpTo l.toArray l.length).Pairwise lt := by
  have get : ∀ j (hj : j < l.length), l.toArray[j]! = l[j] := fun j hj => by simp [hj]
  have key : ∀ m, m ≤ l.length → (∀ p, p ∈ compactUpTo l.toArray m ↔ p ∈ l.take m) ∧ (compactUpTo l.toArray m).Pairwise lt ∧ ∀ (hm : 0 < m), (compactUpTo l.toArray m).getLast? = l[m - 1]? := by
    intro m
    induction m with
    | zero => intro _; exact ⟨by simp [compactUpTo], by simp [compactUpTo], fun h => absurd h (by omega)⟩
    | succ m ih =>
      intro hm
      obtain ⟨i1, i2, i3⟩ := ih (by omega)
      have hml : m < l.length := by omega
      rw [compactUpTo_succ, get m hml]
      have htake : l.take (m + 1) = l.take m ++ [l[m]] := by rw [List.take_add_one, List.getElem?_eq_getElem hml]; rfl
      rw [List.pairwise_iff_getElem] at h
      by_cases hk : keeps l.toArray m = true
      · rw [if_pos hk]
        refine ⟨fun p => by rw [htake, List.mem_append, List.mem_append, i1], ?_, fun _ => by rw [Nat.add_sub_cancel, List.getElem?_eq_getElem hml]; simp⟩
        rw [List.pairwise_append]
        refine ⟨i2, by simp, fun x hx y hy => ?_⟩
        simp at hy
        subst hy
        have hx' := (i1 x).1 hx
        obtain ⟨j, hj, rfl⟩ := List.mem_iff_getElem.1 hx'
        have hjm : j < m := by simp at hj; omega
        rw [List.getElem_take]
        have hm1 : l[m] ≠ l[m - 1] := by
          unfold keeps at hk
          rw [decide_eq_true_eq, get m hml, get (m - 1) (by omega)] at hk
          rcases hk with hk | hk
          · omega
          · exact hk
        have h1 : lt l[m - 1] l[m] := by
          rcases lt_tri l[m - 1] l[m] with h' | h' | h'
          · exact h'
          · exact absurd h'.symm hm1
          · exact absurd h' (h (m - 1) m (by omega) hml (by omega))
        by_cases c : j = m - 1
        · subst c; exact h1
        · exact Geo.lt_of_not (h j (m - 1) (by omega) (by omega) (by omega)) h1
      · rw [if_neg hk, List.append_nil]
        have hk' : m ≠ 0 ∧ l[m] = l[m - 1] := by
          unfold keeps at hk
          rw [decide_eq_true_eq, get m hml] at hk
          by_cases c : m = 0
          · exact absurd (Or.inl c) hk
          · rw [get (m - 1) (by omega)] at hk
            exact ⟨c, Classical.byContradiction fun e => hk (.inr e)⟩
        refine ⟨fun p => ?_, i2, fun _ => ?_⟩
        · rw [htake, List.mem_append, i1]
          refine ⟨.inl, fun h => ?_⟩
          rcases h with h | h
          · exact h
          · simp at h
            subst h
            rw [hk'.2]
            exact List.mem_iff_getElem.2 ⟨m - 1, by simp; omega, by rw [List.getElem_take]⟩
        · rw [i3 (by omega), Nat.add_sub_cancel, List.getElem?_eq_getElem hml, List.getElem?_eq_getElem (by omega), hk'.2]
  have := key l.length (Nat.le_refl _)
  rw [List.take_length] at this
  exact ⟨this.1, this.2.1⟩

/-- what hull hands back: the hull, or that there is none -/
def HullRes (l : List S30) (r : List S30 × Bool) : Prop := (¬ Coll l ∧ r.2 = true ∧ IsHull l r.1) ∨ (Coll l ∧ r.2 = false)

theorem coll_of_mem {l l' : List S30} (h : ∀ p, p ∈ l ↔ p ∈ l') : Coll l ↔ Coll l' :=
  ⟨fun hc p hp q hq r hr => hc p ((h p).2 hp) q ((h q).2 hq) r ((h r).2 hr), fun hc p hp q hq r hr => hc p ((h p).1 hp) q ((h q).1 hq) r ((h r).1 hr)⟩

theorem mem_len {l l' : List S30} (hs : l.Pairwise lt) (h : ∀ p, p ∈ l ↔ p ∈ l') : l.length ≤ l'.length :=
  nodup_len (by unfold List.Nodup; exact List.Pairwise.imp (fun h e => by subst e; exact lt_irrefl _ h) hs) (fun x hx => (h x).1 hx)

theorem hull_f (l : List S30) (hl : l.length ≤ 1000) (hF : ∀ x ∈ l, Far x) : ∃ r, Ev (fun k => convex_hull.f k l) r ∧ HullRes l r := by
  obtain ⟨s, e1, hp, hs⟩ := sort_spots.sorts l (by omega) (fun x hx => le_of_far (hF x hx))
  have hcs := compact_sorted s hs
  have hsl : s.length = l.length := hp.length_eq
  generalize hc : Go.Lib.compactUpTo s.toArray s.length = c at hcs
  have hmem : ∀ p, p ∈ c ↔ p ∈ l := fun p => by rw [hcs.1, hp.mem_iff]
  have hcl : c.length ≤ l.length := mem_len hcs.2 hmem
  have hcF : ∀ x ∈ c, Far x := fun x hx => hF x ((hmem x).1 hx)
  have e2 : compact_spots.f s = some c := by unfold compact_spots.f; rw [if_pos (by omega), hc]
  have e0 : clone_spots.f l = some l := by unfold clone_spots.f; rw [if_pos (by omega)]
  have hpre : ∀ k, convex_hull.f k l = if (c.length : Int) < 3 then (some (([] : List S30), false)) else ((convex_chain.f k c).bind fun t131 => ((reverse_spots.f c).bind fun t134 => ((convex_chain.f k t134).bind fun t135 => (if t131.length + t135.length < 8796093022208 then ((some (t131 ++ t135 : List (S30))).bind fun y138 => (some (y138, decide ((y138.length : Int) > 2)))) else (none))))) := by
    intro k
    unfold convex_hull.f
    rw [e0, Option.bind_some, e1, Option.bind_some, e2, Option.bind_some]
  by_cases h3 : c.length < 3
  · refine ⟨([], false), Ev.congr (f := fun _ => some ([], false)) (fun k => by rw [hpre, if_pos (by omega)]) (Ev.now _), .inr ⟨(coll_of_mem hmem).1 (small_coll h3), rfl⟩⟩
  · have hne : c ≠ [] := by intro e; rw [e] at h3; simp at h3
    have hb : (Geo.chain c).length + (Geo.chain c.reverse).length < 8796093022208 := by
      have cl : ∀ l : List S30, (chainR l).length ≤ l.length := by
        intro l
        unfold chainR
        have : ∀ (l st : List S30), (l.foldl (fun st s => s :: pop s st) st).length ≤ l.length + st.length := by
          intro l
          induction l with
          | nil => intro st; simp
          | cons x r ih => intro st; rw [List.foldl_cons]; have := ih (x :: pop x st); have := pop_len x st; simp at *; omega
        simpa using this l []
      have h1 := cl c
      have h2 := cl c.reverse
      unfold Geo.chain
      simp at *
      omega
    refine ⟨(hullOf c, decide (((hullOf c).length : Int) > 2)), ?_, ?_⟩
    · refine Ev.congr (fun k => by rw [hpre, if_neg (by omega)]) ?_
      refine Ev.bind (chain_f c (by omega) hcF hne) ?_
      refine Ev.congr (f := fun k => (convex_chain.f k c.reverse).bind fun t135 => (if (Geo.chain c).length + t135.length < 8796093022208 then ((some (Geo.chain c ++ t135 : List (S30))).bind fun y138 => (some (y138, decide ((y138.length : Int) > 2)))) else (none))) (fun k => by unfold reverse_spots.f; rw [if_pos (by omega)]; rfl) ?_
      refine Ev.bind (chain_f c.reverse (by simp; omega) (fun x hx => hcF x (by simpa using hx)) (by simpa using hne)) ?_
      refine Ev.congr (f := fun _ => some (hullOf c, decide (((hullOf c).length : Int) > 2))) (fun k => ?_) (Ev.now _)
      rw [if_pos hb]
      rfl
    · by_cases hL : Coll c
      · have := chain_line hcs.2 (by omega) hL
        exact .inr ⟨(coll_of_mem hmem).1 hL, by simp [this]⟩
      · have h := chain_hull hcs.2 hL
        have := h.three
        exact .inl ⟨fun e => hL ((coll_of_mem hmem).2 e), by simp; omega, h.of_mem hmem⟩
end Go.Proofs.Ytlnigbhimdphoaa.Z
