/- What the printed functions of chapter 14 come to: the reference's gift wrapping and its hull. What the printed functions of chapter 14 come to: Inside, Negate and Support, the reference's. -/
import Derived.Test.YtlnigbhimdphoaaMLinksA
import Derived.Test.YtlnigbhimdphoaaCx14
import Derived.Test.YtlnigbhimdphoaaCx18
section
namespace Go.Proofs.Ytlnigbhimdphoaa.Z
open Go Go.RowKit Go.Proofs.Ytlnigbhimdphoaa.C Go.Proofs.Ytlnigbhimdphoaa.Geo Go.Proofs.YtlnigbhimdphoaaW.PrintWords Go.Proofs.YtlnigbhimdphoaaW.PrintMore

theorem least_l0 (l : List S30) (hl : l.length ≤ 1000) (n : Nat) : ∀ (i a : Nat) (ha : a < l.length), i + n = l.length → (∀ j (hj : j < l.length), j < i → ¬ lt l[j] l[a]) →
    ∃ r, Ev (fun k => garmentref11_Least.l0 k l (a : Int) (i : Int)) r ∧ 0 < r.length ∧ rd_T30 r 0 ∈ l ∧ ∀ p ∈ l, ¬ lt p (rd_T30 r 0) := by
  induction n with
  | zero =>
    intro i a ha hi hinv
    refine ⟨l.drop a ++ l.take a, Ev.step (f := fun _ => some (l.drop a ++ l.take a)) (fun k => ?_) (Ev.now _), by simp; omega, ?_, ?_⟩
    · simp only [garmentref11_Least.l0]
      rw [if_neg (nlt_cast (by omega)), if_pos (ge0 a), if_pos (by omega)]
      simp only [Option.bind_some, Int.toNat_natCast, List.nil_append]
      rw [if_pos (by simp; omega), if_pos (by simp; omega)]
    all_goals
      have e : rd_T30 (l.drop a ++ l.take a) 0 = l[a] := by
        have := rd_at (l := l.drop a ++ l.take a) (i := 0) (by simp; omega)
        rw [show ((0 : Nat) : Int) = 0 from rfl] at this
        rw [this, List.getElem_append_left (by simp; omega), List.getElem_drop]
        rfl
      rw [e]
    · exact List.getElem_mem ha
    · intro p hp
      obtain ⟨j, hj, rfl⟩ := List.mem_iff_getElem.1 hp
      exact hinv j hj (by omega)
  | succ n ih =>
    intro i a ha hi hinv
    have hlt : i < l.length := by omega
    by_cases c : lt l[i] l[a]
    · obtain ⟨r, hr, h⟩ := ih (i + 1) i hlt (by omega) (fun j hj hji h => by
        by_cases e : j = i
        · subst e; exact lt_irrefl _ h
        · exact hinv j hj (by omega) (lt_trans h c))
      refine ⟨r, Ev.step (f := fun k => garmentref11_Least.l0 k l (i : Int) ((i + 1 : Nat) : Int)) (fun k => ?_) hr, h⟩
      simp only [garmentref11_Least.l0]
      rw [if_pos (lt_cast hlt), if_pos (ge0 i), if_pos (ge0 a), if_pos (lt_cast ha), rd_at hlt, rd_at ha, less_eq, Option.bind_some, if_pos (by simpa using c), w64s (by omega)]
    · obtain ⟨r, hr, h⟩ := ih (i + 1) a ha (by omega) (fun j hj hji h => by
        by_cases e : j = i
        · subst e; exact c h
        · exact hinv j hj (by omega) h)
      refine ⟨r, Ev.step (f := fun k => garmentref11_Least.l0 k l (a : Int) ((i + 1 : Nat) : Int)) (fun k => ?_) hr, h⟩
      simp only [garmentref11_Least.l0]
      rw [if_pos (lt_cast hlt), if_pos (ge0 i), if_pos (ge0 a), if_pos (lt_cast ha), rd_at hlt, rd_at ha, less_eq, Option.bind_some, if_neg (by simpa using c), w64s (by omega)]

theorem distance_far {a b : S30} (ha : Far a) (hb : Far b) : garmentref14_distance.f a.f0 a.f1 b.f0 b.f1 = some (dist a b) := by
  unfold Far at ha hb
  unfold garmentref14_distance.f dist mabs
  rw [w64 (i := a.f0 - b.f0) (by omega) (by omega), w64 (i := b.f0 - a.f0) (by omega) (by omega), w64 (i := a.f1 - b.f1) (by omega) (by omega), w64 (i := b.f1 - a.f1) (by omega) (by omega)]
  have e0 : mx (a.f0 - b.f0) (b.f0 - a.f0) = (if b.f0 - a.f0 < -(b.f0 - a.f0) then -(b.f0 - a.f0) else b.f0 - a.f0) := by unfold mx; split <;> split <;> omega
  have e1 : mx (a.f1 - b.f1) (b.f1 - a.f1) = (if b.f1 - a.f1 < -(b.f1 - a.f1) then -(b.f1 - a.f1) else b.f1 - a.f1) := by unfold mx; split <;> split <;> omega
  rw [e0, e1, w64 (by split <;> split <;> omega) (by split <;> split <;> omega)]

/-- one point of the inner loop -/
theorem wrap_step (l out : List S30) (i5 : Int) (i : Nat) (hlt : i < l.length) (hl : l.length ≤ 1000) (a n : S30) (ha : Far a) (hn : Far n) (hp : Far l[i]) (res : List S30)
    (h : Ev (fun k => garmentref14_wrap.l1 k l out i5 ((i + 1 : Nat) : Int) a.f0 a.f1 (if better a n l[i] then l[i] else n).f0 (if better a n l[i] then l[i] else n).f1) res) :
    Ev (fun k => garmentref14_wrap.l1 k l out i5 (i : Int) a.f0 a.f1 n.f0 n.f1) res := by
  refine Ev.step (f := fun k => garmentref14_wrap.j2 k l out i5 (i : Int) (better a n l[i]) a.f0 a.f1 n.f0 n.f1) (fun k => ?_) ?_
  · simp only [garmentref14_wrap.l1]
    rw [if_pos (lt_cast hlt), if_pos (ge0 i), rd_at hlt, Cross_far ha hn hp, Option.bind_some]
    by_cases c0 : l[i].f0 ≠ a.f0 ∨ l[i].f1 ≠ a.f1
    · have d0 : (!(l[i].f0 == a.f0) || !(l[i].f1 == a.f1)) = true := by simp; omega
      rw [if_pos d0]
      by_cases c1 : n.f0 = a.f0 ∧ n.f1 = a.f1
      · have d1 : (n.f0 == a.f0 && n.f1 == a.f1) = true := by simp [c1]
        have b : better a n l[i] = true := by unfold better; simp [c1]; omega
        rw [if_pos d1, b]
      · have d1 : ¬ (n.f0 == a.f0 && n.f1 == a.f1) = true := by simpa using c1
        rw [if_neg d1]
        by_cases c2 : cr a n l[i] < 0
        · have b : better a n l[i] = true := by unfold better; simp [c2]; omega
          rw [if_pos c2, b]
        · rw [if_neg c2]
          by_cases c3 : cr a n l[i] = 0
          · rw [if_pos c3, distance_far ha hp, Option.bind_some, distance_far ha hn, Option.bind_some]
            have b : better a n l[i] = decide (dist a l[i] > dist a n) := by
              unfold better
              rw [decide_eq_true c0, decide_eq_false c1, decide_eq_false c2, decide_eq_true c3]
              simp
            rw [b]
          · have b : better a n l[i] = false := by
              unfold better
              rw [decide_eq_true c0, decide_eq_false c1, decide_eq_false c2, decide_eq_false c3]
              simp
            rw [if_neg c3, b]
    · have d0 : ¬ (!(l[i].f0 == a.f0) || !(l[i].f1 == a.f1)) = true := by simp; omega
      have b : better a n l[i] = false := by unfold better; rw [decide_eq_false c0]; simp
      rw [if_neg d0, b]
  · refine Ev.step (fun k => ?_) h
    simp only [garmentref14_wrap.j2]
    by_cases b : better a n l[i] = true
    · rw [if_pos b, if_pos (ge0 i), if_pos (lt_cast hlt), rd_at hlt, w64s (by omega), if_pos b]
    · rw [if_neg b, w64s (by omega), if_neg b]

theorem fold_far (a : S30) : ∀ (l : List S30) (n : S30), Far n → (∀ x ∈ l, Far x) → Far (l.foldl (fun n p => if better a n p then p else n) n)
  | [], _, h, _ => h
  | p :: r, n, h, hl => by
    rw [List.foldl_cons]
    refine fold_far a r _ ?_ (fun x hx => hl x (List.mem_cons_of_mem _ hx))
    split
    · exact hl p (by simp)
    · exact h

theorem wrap_l1 (l out : List S30) (i5 : Int) (hl : l.length ≤ 1000) (hF : ∀ x ∈ l, Far x) (a : S30) (ha : Far a) (res : List S30) (m : Nat) : ∀ (i : Nat) (n : S30), i + m = l.length → Far n →
    Ev (fun k => garmentref14_wrap.l1 k l out i5 (l.length : Int) a.f0 a.f1 ((l.drop i).foldl (fun n p => if better a n p then p else n) n).f0 ((l.drop i).foldl (fun n p => if better a n p then p else n) n).f1) res →
    Ev (fun k => garmentref14_wrap.l1 k l out i5 (i : Int) a.f0 a.f1 n.f0 n.f1) res := by
  induction m with
  | zero =>
    intro i n hi hn h
    rw [List.drop_of_length_le (by omega), List.foldl_nil] at h
    rw [show i = l.length by omega]
    exact h
  | succ m ih =>
    intro i n hi hn h
    have hlt : i < l.length := by omega
    have hp := hF l[i] (List.getElem_mem hlt)
    rw [drop_at hlt, List.foldl_cons] at h
    refine wrap_step l out i5 i hlt hl a n ha hn hp res (ih (i + 1) _ (by omega) ?_ h)
    split
    · exact hp
    · exact hn

theorem wrap_l0 (l : List S30) (hl : l.length ≤ 1000) (hF : ∀ x ∈ l, Far x) (v : S30) (n : Nat) : ∀ (i : Nat) (a : S30) (out : List S30), i + n = l.length → Far a → out.length ≤ i + 1 → 0 < out.length → rd_T30 out 0 = v →
    Ev (fun k => garmentref14_wrap.l0 k l out (i : Int) a.f0 a.f1) (go l v n a out) := by
  induction n with
  | zero =>
    intro i a out hi ha ho hop hv
    refine Ev.step (f := fun _ => some out) (fun k => ?_) (Ev.now _)
    simp only [garmentref14_wrap.l0]
    rw [if_neg (nlt_cast (by omega))]
  | succ n ih =>
    intro i a out hi ha ho hop hv
    refine Ev.step (f := fun k => garmentref14_wrap.l1 k l out (i : Int) ((0 : Nat) : Int) a.f0 a.f1 a.f0 a.f1) (fun k => ?_) ?_
    · simp only [garmentref14_wrap.l0]
      rw [if_pos (lt_cast (by omega))]
      rfl
    · refine wrap_l1 l out i hl hF a ha _ l.length 0 a (by omega) ha ?_
      rw [List.drop_zero]
      have hb := fold_far a l a ha hF
      have hpk : l.foldl (fun n p => if better a n p then p else n) a = pick a l := rfl
      rw [hpk] at hb ⊢
      rw [go]
      by_cases c1 : (pick a l).f0 = v.f0 ∧ (pick a l).f1 = v.f1
      · rw [if_pos c1]
        refine Ev.step (f := fun _ => some out) (fun k => ?_) (Ev.now _)
        simp only [garmentref14_wrap.l1]
        rw [if_neg (by omega), if_pos (by omega), hv, if_pos (by simp [c1])]
      · rw [if_neg c1]
        by_cases c2 : (pick a l).f0 = a.f0 ∧ (pick a l).f1 = a.f1
        · rw [if_pos c2]
          refine Ev.step (f := fun _ => some out) (fun k => ?_) (Ev.now _)
          simp only [garmentref14_wrap.l1]
          rw [if_neg (by omega), if_pos (by omega), hv, if_neg (by simpa using c1), if_pos (by simp [c2])]
        · rw [if_neg c2]
          refine Ev.step (f := fun k => garmentref14_wrap.l0 k l (out ++ [pick a l]) ((i + 1 : Nat) : Int) (pick a l).f0 (pick a l).f1) (fun k => ?_) (ih (i + 1) _ _ (by omega) hb (by simp; omega) (by simp) ?_)
          · simp only [garmentref14_wrap.l1]
            rw [if_neg (by omega), if_pos (by omega), hv, if_neg (by simpa using c1), if_neg (by simpa using c2), if_pos (by omega), w64s (by omega)]
          · rw [← hv]
            unfold rd_T30
            cases out with
            | nil => simp at hop
            | cons x r => rfl

theorem wrap_f (l : List S30) (hl : l.length ≤ 1000) (hF : ∀ x ∈ l, Far x) : ∃ r, Ev (fun k => garmentref14_wrap.f k l) r ∧ ((¬ Coll l ∧ IsHull l r) ∨ (Coll l ∧ r.length < 3)) := by
  by_cases h0 : l = []
  · subst h0
    exact ⟨[], Ev.congr (f := fun _ => some []) (fun k => by unfold garmentref14_wrap.f; rw [if_pos (by simp)]) (Ev.now _), .inr ⟨small_coll (by simp), by simp⟩⟩
  · have hlp : 0 < l.length := List.length_pos_iff.2 h0
    obtain ⟨r, hr, hrl, hmem, hleast⟩ := least_l0 l hl (l.length - 1) 1 0 hlp (by omega) (fun j hj hj1 => by
      have : j = 0 := by omega
      subst this
      exact lt_irrefl _)
    generalize hv : rd_T30 r 0 = v at hmem hleast
    refine ⟨wrapFrom v l, ?_, ?_⟩
    · refine Ev.congr (f := fun k => (garmentref11_Least.f k l).bind fun t280 => (if 0 < (t280.length : Int) then (garmentref14_wrap.l0 k l (([(⟨(rd_T30 t280 0).f0, (rd_T30 t280 0).f1⟩ : S30)] : List (S30))) 0 ((rd_T30 t280 0).f0) ((rd_T30 t280 0).f1)) else (none))) (fun k => by unfold garmentref14_wrap.f; rw [if_neg (by omega)]) ?_
      refine Ev.bind (a := r) hr ?_
      refine Ev.congr (f := fun k => garmentref14_wrap.l0 k l [v] ((0 : Nat) : Int) v.f0 v.f1) (fun k => by rw [if_pos (by omega), hv]; rfl) ?_
      exact wrap_l0 l hl hF v l.length 0 v [v] (by omega) (hF v hmem) (by simp) (by simp) rfl
    · by_cases hL : Coll l
      · exact .inr ⟨hL, wrap_line hmem hleast hL⟩
      · exact .inl ⟨hL, wrap_hull hmem hleast hL⟩

theorem rHull_l0 (l : List S30) (hl : l.length ≤ 160) (n : Nat) : ∀ (i : Nat), i + n = l.length → (∀ j (hj : j < l.length), j < i → Far l[j]) →
    ∃ r, Ev (fun k => garmentref14_Hull.l0 k l (i : Int)) r ∧ HullIs l r := by
  induction n with
  | zero =>
    intro i hi hinv
    have hF : ∀ x ∈ l, Far x := fun x hx => by
      obtain ⟨j, hj, rfl⟩ := List.mem_iff_getElem.1 hx
      exact hinv j hj (by omega)
    obtain ⟨r, hr, hres⟩ := wrap_f l (by omega) hF
    rcases hres with ⟨h1, h2⟩ | ⟨h1, h2⟩
    · have h3 := h2.three
      exact ⟨(r, 0), Ev.step (fun k => by simp only [garmentref14_Hull.l0]; rw [if_neg (nlt_cast (by omega))]) (Ev.bind hr (Ev.congr (f := fun _ => some (r, 0)) (fun k => by rw [if_neg (by omega)]) (Ev.now _))), HullIs.ok hl hF (.inr ⟨h1, rfl, h2⟩)⟩
    · exact ⟨([], 11), Ev.step (fun k => by simp only [garmentref14_Hull.l0]; rw [if_neg (nlt_cast (by omega))]) (Ev.bind hr (Ev.congr (f := fun _ => some ([], 11)) (fun k => by rw [if_pos (by omega)]) (Ev.now _))), HullIs.ok hl hF (.inl ⟨h1, rfl⟩)⟩
  | succ n ih =>
    intro i hi hinv
    have hlt : i < l.length := by omega
    by_cases c : Far l[i]
    · obtain ⟨r, hr, h⟩ := ih (i + 1) (by omega) (fun j hj hji => by
        by_cases e : j = i
        · subst e; exact c
        · exact hinv j hj (by omega))
      refine ⟨r, Ev.step (f := fun k => garmentref14_Hull.l0 k l ((i + 1 : Nat) : Int)) (fun k => ?_) hr, h⟩
      simp only [garmentref14_Hull.l0]
      rw [if_pos (lt_cast hlt), if_pos (ge0 i), rd_at hlt, within_far, Option.bind_some, if_pos (by simpa using c), w64s (by omega)]
    · refine ⟨([], 3), Ev.step (f := fun _ => some ([], 3)) (fun k => ?_) (Ev.now _), ?_⟩
      · simp only [garmentref14_Hull.l0]
        rw [if_pos (lt_cast hlt), if_pos (ge0 i), rd_at hlt, within_far, Option.bind_some, if_neg (by simpa using c)]
      · unfold HullIs
        rw [if_neg (by omega), if_pos (not_all hlt c)]
theorem rHull_f (l : List S30) : ∃ r, Ev (fun k => garmentref14_Hull.f k l) r ∧ HullIs l r := by
  by_cases h : 160 < l.length
  · exact ⟨([], 5), Ev.congr (f := fun _ => some ([], 5)) (fun k => by unfold garmentref14_Hull.f; rw [if_pos (by omega)]) (Ev.now _), by unfold HullIs; rw [if_pos h]⟩
  · obtain ⟨r, hr, hres⟩ := rHull_l0 l (by omega) l.length 0 (by omega) (fun j _ hj => by omega)
    exact ⟨r, Ev.congr (fun k => by unfold garmentref14_Hull.f; rw [if_neg (by omega)]; rfl) hr, hres⟩
end Go.Proofs.Ytlnigbhimdphoaa.Z
end

section
namespace Go.Proofs.Ytlnigbhimdphoaa.Z
open Go Go.RowKit Go.Proofs.Ytlnigbhimdphoaa.C Go.Proofs.Ytlnigbhimdphoaa.Geo Go.Proofs.YtlnigbhimdphoaaW.PrintWords Go.Proofs.YtlnigbhimdphoaaW.PrintMore
theorem limited_eq (a b_ : Int) : garmentref14_limited.f a b_ = some (lim a b_) := rfl

theorem interior_l0 (h : List S30) (hl : h.length ≤ 1000) (hF : ∀ x ∈ h, Far x) (q : S30) (hq : Far q) (n : Nat) : ∀ i : Nat, i + n = h.length → Ev (fun k => garmentref14_Interior.l0 k h (i : Int) q.f0 q.f1) (decide (inH h q i)) := by
  induction n with
  | zero =>
    intro i hi
    rw [decide_eq_true (inH_end (by omega))]
    exact Ev.step (f := fun _ => some true) (fun k => by simp only [garmentref14_Interior.l0]; rw [if_neg (nlt_cast (by omega))]) (Ev.now _)
  | succ n ih =>
    intro i hi
    have hlt : i < h.length := by omega
    have hp : 0 < h.length := by omega
    have hm := Nat.mod_lt (i + 1) hp
    have e1 : h[i] = nth h i := (nth_lt h i hlt).symm
    by_cases c : cr (nth h i) (nth h (i + 1)) q ≤ 0
    · have e : decide (inH h q i) = false := by rw [decide_eq_false_iff_not, inH_step hlt]; omega
      rw [e]
      refine Ev.step (f := fun _ => some false) (fun k => ?_) (Ev.now _)
      simp only [garmentref14_Interior.l0]
      rw [if_pos (lt_cast hlt), if_pos (ge0 i), if_neg (by omega), w64s (by omega), tmod_cast, if_pos (by omega), if_pos (by omega), rd_at hlt, rd_nth hp, e1, Cross_far (nth_far hF hp _) (nth_far hF hp _) hq, Option.bind_some, if_pos c]
    · have e : decide (inH h q i) = decide (inH h q (i + 1)) := decide_eq_decide.2 (by rw [inH_step hlt]; exact ⟨fun h => h.2, fun h => ⟨by omega, h⟩⟩)
      rw [e]
      refine Ev.step (f := fun k => garmentref14_Interior.l0 k h ((i + 1 : Nat) : Int) q.f0 q.f1) (fun k => ?_) (ih (i + 1) (by omega))
      simp only [garmentref14_Interior.l0]
      rw [if_pos (lt_cast hlt), if_pos (ge0 i), if_neg (by omega), w64s (by omega), tmod_cast, if_pos (by omega), if_pos (by omega), rd_at hlt, rd_nth hp, e1, Cross_far (nth_far hF hp _) (nth_far hF hp _) hq, Option.bind_some, if_neg c]

theorem rInside_f {l : List S30} {r : List S30 × Int} (hr : Ev (fun k => garmentref14_Hull.f k l) r) (h : HullIs l r) (q : S30) : Ev (fun k => garmentref14_Inside.f k l q.f0 q.f1) (insideOf r q) := by
  have hlen := h.len
  refine Ev.bind (f := fun k bt322 => (if bt322.2 = 0 then ((garmentref14_Interior.f k bt322.1 q.f0 q.f1).bind fun t326 => (some (t326, 0))) else (some (false, bt322.2)))) hr ?_
  unfold insideOf
  by_cases c : r.2 = 0
  · rw [if_pos c]
    refine Ev.congr (f := fun k => (garmentref14_Interior.f k r.1 q.f0 q.f1).bind fun t326 => (some (t326, 0))) (fun k => by rw [if_pos c]) (Ev.bind (a := decide (Far q ∧ inH r.1 q 0)) ?_ (Ev.now _))
    by_cases cq : Far q
    · have e : decide (Far q ∧ inH r.1 q 0) = decide (inH r.1 q 0) := decide_eq_decide.2 ⟨fun h => h.2, fun h => ⟨cq, h⟩⟩
      rw [e]
      exact Ev.congr (fun k => by unfold garmentref14_Interior.f; rw [within_far, Option.bind_some, if_pos (by simpa using cq)]; rfl) (interior_l0 r.1 (by omega) h.far q cq r.1.length 0 (by omega))
    · rw [decide_eq_false (fun h => cq h.1)]
      exact Ev.congr (f := fun _ => some false) (fun k => by unfold garmentref14_Interior.f; rw [within_far, Option.bind_some, if_neg (by simpa using cq)]) (Ev.now _)
  · rw [if_neg c]
    exact Ev.congr (f := fun _ => some (false, r.2)) (fun k => by rw [if_neg c]) (Ev.now _)

theorem rnegate_l0 (l : List S30) (hl : l.length ≤ 1000) (n : Nat) : ∀ (i : Nat) (out : List S30), i + n = l.length → out.length ≤ i → Ev (fun k => garmentref14_Negate.l0 k l out (i : Int)) (out ++ (l.drop i).map negW) := by
  induction n with
  | zero =>
    intro i out hi ho
    rw [List.drop_of_length_le (by omega), List.map_nil, List.append_nil]
    exact Ev.step (f := fun _ => some out) (fun k => by simp only [garmentref14_Negate.l0]; rw [if_neg (nlt_cast (by omega))]) (Ev.now _)
  | succ n ih =>
    intro i out hi ho
    have hlt : i < l.length := by omega
    have := ih (i + 1) (out ++ [negW l[i]]) (by omega) (by simp; omega)
    rw [drop_at hlt, List.map_cons]
    rw [List.append_assoc, List.singleton_append] at this
    refine Ev.step (fun k => ?_) this
    simp only [garmentref14_Negate.l0]
    rw [if_pos (lt_cast hlt), if_pos (ge0 i), if_pos (by omega), rd_at hlt, w64s (by omega)]
    rfl
theorem rNegate_f (l : List S30) (hl : l.length ≤ 1000) : Ev (fun k => garmentref14_Negate.f k l) (l.map negW) := by
  have := rnegate_l0 l hl l.length 0 [] (by omega) (by simp)
  rw [List.nil_append, List.drop_zero] at this
  exact this

theorem rsupport_l0 (l : List S30) (hl : l.length ≤ 1000) (x y : Int) (n : Nat) : ∀ (i : Nat) (b : Int), i + n = l.length → Ev (fun k => garmentref14_Support.l0 k l x y b (i : Int)) (sup x y (l.drop i) (decide (i = 0)) b) := by
  induction n with
  | zero =>
    intro i b hi
    rw [List.drop_of_length_le (by omega)]
    exact Ev.step (f := fun _ => some b) (fun k => by simp only [garmentref14_Support.l0]; rw [if_neg (nlt_cast (by omega))]) (Ev.now _)
  | succ n ih =>
    intro i b hi
    have hlt : i < l.length := by omega
    have ih := ih (i + 1) (if decide (i = 0) then val x y l[i] else if val x y l[i] > b then val x y l[i] else b) (by omega)
    rw [decide_eq_false (show ¬ i + 1 = 0 by omega)] at ih
    rw [drop_at hlt, sup]
    refine Ev.step (fun k => ?_) ih
    simp only [garmentref14_Support.l0]
    rw [if_pos (lt_cast hlt), if_pos (ge0 i), rd_at hlt, limited_eq, Option.bind_some, limited_eq, Option.bind_some, w64s (by omega)]
    have e : wrap64 ((wrap64 (lim l[i].f0 4194304 * x)) + (wrap64 (lim l[i].f1 4194304 * y))) = val x y l[i] := rfl
    rw [e]
    by_cases c : i = 0
    · rw [if_pos (by omega), decide_eq_true c, if_pos rfl]
    · rw [if_neg (show ¬ (i : Int) = 0 by omega)]
      simp only [c, decide_false, Bool.false_eq_true, if_false]
      by_cases c2 : val x y l[i] > b
      · rw [if_pos c2, if_pos c2]
      · rw [if_neg c2, if_neg c2]
theorem rSupport_f (l : List S30) (hl : l.length ≤ 1000) (x y : Int) : Ev (fun k => garmentref14_Support.f k l x y) (supOf l x y) := by
  have := rsupport_l0 l hl (lim x 1000) (lim y 1000) l.length 0 0 (by omega)
  rw [List.drop_zero, decide_eq_true rfl] at this
  exact Ev.congr (fun k => by unfold garmentref14_Support.f; rw [limited_eq, Option.bind_some, limited_eq, Option.bind_some]; rfl) this
end Go.Proofs.Ytlnigbhimdphoaa.Z
end
