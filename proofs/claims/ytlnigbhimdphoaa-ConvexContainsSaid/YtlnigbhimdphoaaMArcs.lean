/- The two chains together are the hull. Plain geometry; no function of the program stands here. -/
import Derived.Test.YtlnigbhimdphoaaMChain
namespace Go.Proofs.Ytlnigbhimdphoaa.Geo
open Go.Proofs.Ytlnigbhimdphoaa.C Go.Proofs.Ytlnigbhimdphoaa.Vec
def neg (a : S30) : S30 := ⟨-a.f0, -a.f1⟩
theorem neg_neg (a : S30) : neg (neg a) = a := by unfold neg; simp
theorem cr_neg (a b c : S30) : cr (neg a) (neg b) (neg c) = cr a b c := by unfold cr neg; grind
theorem lt_neg {a b : S30} : lt (neg a) (neg b) ↔ lt b a := by unfold lt neg; simp only; omega
theorem pop_neg (s : S30) : ∀ st : List S30, pop (neg s) (st.map neg) = (pop s st).map neg
  | [] => rfl
  | [_] => rfl
  | b :: a :: r => by
    have ih := pop_neg s (a :: r)
    simp only [List.map_cons] at ih ⊢
    unfold pop
    rw [cr_neg]
    by_cases h : cr a b s ≤ 0
    · rw [if_pos h, if_pos h]; exact ih
    · rw [if_neg h, if_neg h]; rfl
theorem chainR_neg (l : List S30) : chainR (l.map neg) = (chainR l).map neg := by
  unfold chainR
  have : ∀ (l st : List S30), (l.map neg).foldl (fun st s => s :: pop s st) (st.map neg) = (l.foldl (fun st s => s :: pop s st) st).map neg := by
    intro l
    induction l with
    | nil => intro st; rfl
    | cons x r ih =>
      intro st
      simp only [List.map_cons, List.foldl_cons]
      rw [pop_neg, ← List.map_cons, ih]
  exact this l []

/-- one half of the hull -/
structure Arc (R : S30 → S30 → Prop) (L A : List S30) (m M : S30) : Prop where
  len : 2 ≤ A.length
  head : A[0]? = some m
  last : A[A.length - 1]? = some M
  mem : ∀ x ∈ A, x ∈ L
  side : ∀ (i : Nat) (x y : S30), A[i]? = some x → A[i + 1]? = some y → R x y ∧ ∀ p ∈ L, 0 ≤ cr x y p
  turn : ∀ (i : Nat) (x y z : S30), A[i]? = some x → A[i + 1]? = some y → A[i + 2]? = some z → 0 < cr x y z

theorem arc_of {P st : List S30} {m M : S30} (h : Chained P st) (h2 : 2 ≤ P.length) (hm : P.head? = some m) (hM : P.getLast? = some M) : Arc lt P st.reverse m M := by
  have hl := h.two h2
  have key : ∀ i x y, st.reverse[i]? = some x → st.reverse[i + 1]? = some y → lt x y ∧ (∀ p ∈ P, 0 ≤ cr x y p) ∧ ∀ z, st.reverse[i + 2]? = some z → 0 < cr x y z := by
    intro i x y hx hy
    have hi := (List.getElem?_eq_some_iff.1 hy).1
    simp only [List.length_reverse] at hi
    rw [List.getElem?_reverse (by omega)] at hx hy
    have hg := good_at st h.good (st.length - 1 - (i + 1)) (by omega)
    rw [List.getElem?_eq_getElem (by omega)] at hx hy
    injection hx with hx
    injection hy with hy
    simp only [show st.length - 1 - (i + 1) + 1 = st.length - 1 - i by omega] at hg
    rw [hx, hy] at hg
    refine ⟨hg.1, hg.2.1, fun z hz => ?_⟩
    have hi2 := (List.getElem?_eq_some_iff.1 hz).1
    simp only [List.length_reverse] at hi2
    rw [List.getElem?_reverse (by omega), List.getElem?_eq_getElem (by omega)] at hz
    injection hz with hz
    have hg2 := good_at st h.good (st.length - 1 - (i + 2)) (by omega)
    have := hg2.2.2 (by omega)
    simp only [show st.length - 1 - (i + 2) + 2 = st.length - 1 - i by omega, show st.length - 1 - (i + 2) + 1 = st.length - 1 - (i + 1) by omega] at this
    rw [hx, hy, hz] at this
    exact this
  refine ⟨by simpa using hl, ?_, ?_, fun x hx => h.mem x (by simpa using hx), fun i x y hx hy => ⟨(key i x y hx hy).1, (key i x y hx hy).2.1⟩, fun i x y z hx hy hz => (key i x y hx hy).2.2 z hz⟩
  · rw [List.getElem?_reverse (by omega), Nat.sub_zero, ← List.getLast?_eq_getElem?, h.bot, hm]
  · rw [List.getElem?_reverse (by simp; omega), List.length_reverse, show st.length - 1 - (st.length - 1) = 0 by omega, ← List.head?_eq_getElem?, h.top, hM]

theorem arc_neg {L A : List S30} {m M : S30} (h : Arc lt (L.map neg) (A.map neg) (neg m) (neg M)) : Arc (fun x y => lt y x) L A m M := by
  have up : ∀ {i : Nat} {x : S30}, A[i]? = some x → (A.map neg)[i]? = some (neg x) := fun h => by rw [List.getElem?_map, h]; rfl
  have inj : ∀ {x y : S30}, neg x = neg y → x = y := fun {x y} e => by rw [← neg_neg x, e, neg_neg]
  refine ⟨by simpa using h.len, ?_, ?_, fun x hx => ?_, fun i x y hx hy => ?_, fun i x y z hx hy hz => ?_⟩
  · have := h.head
    rw [List.getElem?_map] at this
    obtain ⟨y, hy, e⟩ := Option.map_eq_some_iff.1 this
    rw [hy, inj e]
  · have := h.last
    rw [List.length_map, List.getElem?_map] at this
    obtain ⟨y, hy, e⟩ := Option.map_eq_some_iff.1 this
    rw [hy, inj e]
  · have := h.mem (neg x) (List.mem_map_of_mem hx)
    obtain ⟨y, hy, e⟩ := List.mem_map.1 this
    rw [← inj e]
    exact hy
  · have := h.side i (neg x) (neg y) (up hx) (up hy)
    refine ⟨lt_neg.1 this.1, fun p hp => ?_⟩
    have h2 := this.2 (neg p) (List.mem_map_of_mem hp)
    rwa [cr_neg] at h2
  · have := h.turn i (neg x) (neg y) (neg z) (up hx) (up hy) (up hz)
    rwa [cr_neg] at this

theorem nth_shift (H : List S30) (i t : Nat) : nth H (i % H.length + t) = nth H (i + t) := by
  unfold nth
  rw [Nat.mod_add_mod]

theorem back_lt {a b c : S30} (h1 : lt a b) (h2 : lt c b) (h : cr a b c = 0) : dt a b c < 0 := by
  have := H.same_way (lexH h1) (lexH h2) (by
    have : (b.f0 - a.f0) * (b.f1 - c.f1) - (b.f1 - a.f1) * (b.f0 - c.f0) = - cr a b c := by unfold cr; grind
    omega)
  have e : dt a b c = -((b.f0 - a.f0) * (b.f0 - c.f0) + (b.f1 - a.f1) * (b.f1 - c.f1)) := by unfold dt; grind
  omega

/-- TWO HALVES MAKE THE HULL. -/
theorem arcs_hull {L A B : List S30} {m M : S30} (hA : Arc lt L A m M) (hB : Arc (fun x y => lt y x) L B M m) (hl : ∀ p ∈ L, ¬ lt p m) (hL : ¬ Coll L) : IsHull L (A.dropLast ++ B.dropLast) := by
  have a2 := hA.len
  have b2 := hB.len
  generalize hH : A.dropLast ++ B.dropLast = K
  have hn : K.length = (A.length - 1) + (B.length - 1) := by rw [← hH]; simp
  have pA : ∀ i x, A[i]? = some x → nth K i = x := by
    intro i x hx
    have hi := (List.getElem?_eq_some_iff.1 hx).1
    have hK : i < K.length := by omega
    rw [nth_lt K i hK]
    have e : K[i]? = some x := by
      rw [← hH]
      by_cases c : i < A.length - 1
      · rw [List.getElem?_append_left (by simpa using c), List.getElem?_dropLast, if_pos c, hx]
      · have e : i = A.length - 1 := by omega
        rw [List.getElem?_append_right (by simp; omega), List.length_dropLast, e, Nat.sub_self, List.getElem?_dropLast, if_pos (by omega), hB.head, ← hA.last, ← e, hx]
    rw [List.getElem?_eq_getElem hK] at e
    injection e
  have pB : ∀ j x, B[j]? = some x → nth K (A.length - 1 + j) = x := by
    intro j x hx
    have hj := (List.getElem?_eq_some_iff.1 hx).1
    by_cases c : j < B.length - 1
    · have hK : A.length - 1 + j < K.length := by omega
      rw [nth_lt K _ hK]
      have e : K[A.length - 1 + j]? = some x := by
        rw [← hH, List.getElem?_append_right (by simp), List.length_dropLast, show A.length - 1 + j - (A.length - 1) = j by omega, List.getElem?_dropLast, if_pos c, hx]
      rw [List.getElem?_eq_getElem hK] at e
      injection e
    · have e : j = B.length - 1 := by omega
      rw [e, hB.last] at hx
      injection hx with hx
      rw [e, show A.length - 1 + (B.length - 1) = K.length by omega, nth_len, pA 0 m hA.head, hx]
  have gA : ∀ i, i < A.length → A[i]? = some (nth K i) := fun i hi => by
    have e := List.getElem?_eq_getElem hi
    rw [pA i _ e]
    exact e
  have gB : ∀ j, j < B.length → B[j]? = some (nth K (A.length - 1 + j)) := fun j hj => by
    have e := List.getElem?_eq_getElem hj
    rw [pB j _ e]
    exact e
  have hmem : ∀ v ∈ K, v ∈ L := by
    intro v hv
    rw [← hH] at hv
    rcases List.mem_append.1 hv with hv | hv
    · exact hA.mem v ((List.dropLast_sublist _).subset hv)
    · exact hB.mem v ((List.dropLast_sublist _).subset hv)
  have hpos : 0 < K.length := by omega
  have side0 : ∀ i, i < K.length → ((lt (nth K i) (nth K (i + 1)) ∧ i + 1 < A.length) ∨ (lt (nth K (i + 1)) (nth K i) ∧ A.length ≤ i + 1)) ∧ ∀ p ∈ L, 0 ≤ cr (nth K i) (nth K (i + 1)) p := by
    intro i hi
    by_cases c : i + 1 < A.length
    · have := hA.side i _ _ (gA i (by omega)) (gA (i + 1) c)
      exact ⟨.inl ⟨this.1, c⟩, this.2⟩
    · have := hB.side (i - (A.length - 1)) _ _ (gB _ (by omega)) (gB _ (by omega))
      rw [show A.length - 1 + (i - (A.length - 1)) = i by omega, show A.length - 1 + (i - (A.length - 1) + 1) = i + 1 by omega] at this
      exact ⟨.inr ⟨this.1, by omega⟩, this.2⟩
  have left : ∀ i, ∀ p ∈ L, 0 ≤ cr (nth K i) (nth K (i + 1)) p := by
    intro i
    have := (side0 (i % K.length) (Nat.mod_lt i hpos)).2
    rwa [nth_shift, nth_mod] at this
  have ne : ∀ {x y : S30}, lt x y → x ≠ y := fun h e => by subst e; exact lt_irrefl _ h
  have inL : ∀ i, nth K i ∈ L := fun i => hmem _ (nth_mem K i hpos)
  have turn0 : ∀ i, i < K.length → 0 < cr (nth K i) (nth K (i + 1)) (nth K (i + 2)) := by
    intro i hi
    by_cases c : i + 2 < A.length
    · exact hA.turn i _ _ _ (gA i (by omega)) (gA (i + 1) (by omega)) (gA (i + 2) c)
    · by_cases c1 : i + 1 < A.length
      · -- at the last point
        have s1 := (side0 i hi).1
        have s2 := (side0 (i + 1) (by omega)).1
        have l1 : lt (nth K i) (nth K (i + 1)) := by
          rcases s1 with s1 | s1
          · exact s1.1
          · omega
        have l2 : lt (nth K (i + 2)) (nth K (i + 1)) := by
          rcases s2 with s2 | s2
          · omega
          · exact s2.1
        exact turn_of hL (ne l1).symm (inL _) (left i) (left (i + 1)) (fun h => back_lt l1 l2 h)
      · by_cases c2 : i + 1 < K.length
        · have := hB.turn (i - (A.length - 1)) _ _ _ (gB _ (by omega)) (gB _ (by omega)) (gB _ (by omega))
          rwa [show A.length - 1 + (i - (A.length - 1)) = i by omega, show A.length - 1 + (i - (A.length - 1) + 1) = i + 1 by omega, show A.length - 1 + (i - (A.length - 1) + 2) = i + 2 by omega] at this
        · -- at the first point
          have s1 := (side0 i hi).1
          have e : i + 1 = K.length := by omega
          have s2 := (side0 0 hpos).1
          have e1 : nth K (i + 1) = nth K 0 := by rw [e, nth_len]
          have e2 : nth K (i + 2) = nth K 1 := by rw [show i + 2 = 1 + K.length by omega, nth_add]
          have l1 : lt (nth K (i + 1)) (nth K i) := by
            rcases s1 with s1 | s1
            · omega
            · exact s1.1
          have l2 : lt (nth K 0) (nth K 1) := by
            rcases s2 with s2 | s2
            · exact s2.1
            · omega
          refine turn_of hL (ne l1) (inL _) (left i) (left (i + 1)) (fun h => ?_)
          rw [e1] at l1 h ⊢
          rw [e2] at h ⊢
          have := back_lt (lt_neg.2 l1) (lt_neg.2 l2) (by rw [cr_neg]; exact h)
          have e3 : dt (neg (nth K i)) (neg (nth K 0)) (neg (nth K 1)) = dt (nth K i) (nth K 0) (nth K 1) := by unfold dt neg; grind
          rwa [e3] at this
  have turn : ∀ i, 0 < cr (nth K i) (nth K (i + 1)) (nth K (i + 2)) := by
    intro i
    have := turn0 (i % K.length) (Nat.mod_lt i hpos)
    rwa [nth_shift, nth_shift, nth_mod] at this
  have h0 : nth K 0 = m := pA 0 m hA.head
  refine ⟨?_, hmem, left, turn, fun p hp => by rw [h0]; exact hl p hp, ?_⟩
  · apply Nat.not_lt.1
    intro h
    have t := turn 0
    have e : nth K 2 = nth K 0 := by rw [← nth_mod K 2, show K.length = 2 by omega]
    rw [e, cr_self'] at t
    omega
  · intro i hi hiK
    rw [h0]
    have up : ∀ i, 0 < i → i < A.length → lt m (nth K i) := by
      intro i
      induction i with
      | zero => omega
      | succ i ih =>
        intro _ hi
        have s := (side0 i (by omega)).1
        have s1 : lt (nth K i) (nth K (i + 1)) := by
          rcases s with s | s
          · exact s.1
          · omega
        by_cases c : i = 0
        · rw [c, h0] at s1; rw [c]; exact s1
        · exact lt_trans (ih (by omega) (by omega)) s1
    have down : ∀ t, 0 < t → t < B.length → lt m (nth K (K.length - t)) := by
      intro t
      induction t with
      | zero => omega
      | succ t ih =>
        intro _ ht
        have s := (side0 (K.length - (t + 1)) (by omega)).1
        rw [show K.length - (t + 1) + 1 = K.length - t by omega] at s
        have s1 : lt (nth K (K.length - t)) (nth K (K.length - (t + 1))) := by
          rcases s with s | s
          · omega
          · exact s.1
        by_cases c : t = 0
        · rw [c, Nat.sub_zero, nth_len, h0] at s1; rw [c]; exact s1
        · exact lt_trans (ih (by omega) (by omega)) s1
    by_cases c : i < A.length
    · exact up i hi c
    · have := down (K.length - i) (by omega) (by omega)
      rwa [show K.length - (K.length - i) = i by omega] at this

def hullOf (l : List S30) : List S30 := chain l ++ chain l.reverse

theorem two_ends {l : List S30} (h2 : 2 ≤ l.length) : ∃ m M, l.head? = some m ∧ l.getLast? = some M := by
  cases l with
  | nil => simp at h2
  | cons x r =>
    refine ⟨x, ?_⟩
    cases hl : (x :: r).getLast? with
    | none => rw [List.getLast?_eq_none_iff] at hl; simp at hl
    | some M => exact ⟨M, rfl, rfl⟩

theorem arcs_of {l : List S30} (hs : List.Pairwise lt l) (h2 : 2 ≤ l.length) : ∃ m M, l.head? = some m ∧ Arc lt l (chainR l).reverse m M ∧ Arc (fun x y => lt y x) l (chainR l.reverse).reverse M m := by
  obtain ⟨m, M, hm, hM⟩ := two_ends h2
  have hne : l ≠ [] := by intro e; rw [e] at h2; simp at h2
  refine ⟨m, M, hm, arc_of (chained hs hne) h2 hm hM, ?_⟩
  have hs2 : List.Pairwise lt (l.reverse.map neg) := by
    rw [List.pairwise_map, List.pairwise_reverse]
    exact List.Pairwise.imp (fun h => lt_neg.2 h) hs
  have hc := chained hs2 (by simpa using hne)
  have ha := arc_of (m := neg M) (M := neg m) hc (by simpa using h2) (by rw [List.head?_map, List.head?_reverse, hM]; rfl) (by rw [List.getLast?_map, List.getLast?_reverse, hm]; rfl)
  rw [chainR_neg, ← List.map_reverse] at ha
  have h3 := arc_neg ha
  refine ⟨h3.len, h3.head, h3.last, fun x hx => by simpa using h3.mem x hx, fun i x y hx hy => ⟨(h3.side i x y hx hy).1, fun p hp => (h3.side i x y hx hy).2 p (by simpa using hp)⟩, h3.turn⟩

theorem hullOf_eq (l : List S30) : hullOf l = (chainR l).reverse.dropLast ++ (chainR l.reverse).reverse.dropLast := by
  unfold hullOf chain
  rw [List.dropLast_reverse, List.dropLast_reverse]

theorem sorted_least {l : List S30} {m : S30} (hs : List.Pairwise lt l) (hm : l.head? = some m) : ∀ p ∈ l, ¬ lt p m := by
  cases l with
  | nil => simp at hm
  | cons x r =>
    simp at hm
    subst hm
    rw [List.pairwise_cons] at hs
    intro p hp
    rcases List.mem_cons.1 hp with rfl | hp
    · exact lt_irrefl _
    · exact not_lt_of_lt (hs.1 p hp)

theorem small_coll {l : List S30} (h : l.length < 3) : Coll l := by
  match l, h with
  | [], _ => intro p hp; simp at hp
  | [x], _ =>
    intro p hp q hq r hr
    simp at hp hq hr
    rw [hp, hq, cr_eq]
  | [x, y], _ =>
    intro p hp q hq r hr
    simp at hp hq hr
    rcases hp with rfl | rfl <;> rcases hq with rfl | rfl <;> rcases hr with rfl | rfl <;> simp [cr_eq, cr_self, cr_self']

/-- THE HULL OF SORTED POINTS. -/
theorem chain_hull {l : List S30} (hs : List.Pairwise lt l) (hL : ¬ Coll l) : IsHull l (hullOf l) := by
  have h3 : 3 ≤ l.length := Nat.not_lt.1 fun h => hL (small_coll h)
  obtain ⟨m, M, hm, hA, hB⟩ := arcs_of hs (by omega)
  rw [hullOf_eq]
  exact arcs_hull hA hB (sorted_least hs hm) hL

theorem chain_line {l : List S30} (hs : List.Pairwise lt l) (h2 : 2 ≤ l.length) (hL : Coll l) : (hullOf l).length = 2 := by
  obtain ⟨m, M, hm, hA, hB⟩ := arcs_of hs h2
  have sh : ∀ {R : S30 → S30 → Prop} {A : List S30} {m M : S30}, Arc R l A m M → A.length = 2 := by
    intro R A m M h
    have := h.len
    apply Nat.le_antisymm _ this
    apply Nat.not_lt.1
    intro h3
    have e0 := List.getElem?_eq_getElem (show 0 < A.length by omega)
    have e1 := List.getElem?_eq_getElem (show 1 < A.length by omega)
    have e2 := List.getElem?_eq_getElem (show 2 < A.length by omega)
    have t := h.turn 0 _ _ _ e0 e1 e2
    rw [hL _ (h.mem _ (List.getElem_mem _)) _ (h.mem _ (List.getElem_mem _)) _ (h.mem _ (List.getElem_mem _))] at t
    omega
  rw [hullOf_eq, List.length_append, List.length_dropLast, List.length_dropLast, sh hA, sh hB]
end Go.Proofs.Ytlnigbhimdphoaa.Geo
