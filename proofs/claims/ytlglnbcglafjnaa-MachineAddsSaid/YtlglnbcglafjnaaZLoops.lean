/- What the printed functions of chapter 48 come to: each loop once. -/
import Derived.Test.YtlglnbcglafjnaaZMathA
import Derived.Test.YtlglnbcglafjnaaMx8
import Derived.Test.YtlglnbcglafjnaaMx7
import Derived.Test.YtlglnbcglafjnaaMx6
import Derived.Test.YtlglnbcglafjnaaMx5
import Derived.Test.YtlglnbcglafjnaaMx4
namespace Go.Proofs.Ytlglnbcglafjnaa.Z
open Go Go.RowKit Go.Proofs.Ytlglnbcglafjnaa.M Go.Proofs.YtlglnbcglafjnaaW.PrintWords Go.Proofs.YtlglnbcglafjnaaW.PrintMore

theorem awake_100 : garmentlaw48_awake.f 100 = some true := by decide +kernel
theorem awake : Ev (fun k => garmentlaw48_awake.f k) true := Ev.of (fun k => garmentlaw48_awake.mono k) awake_100
theorem awake_then : Ev (fun k => (garmentlaw48_awake.f k).bind fun t => some t) true := Ev.bind awake (Ev.now _)

theorem w64 {i : Int} (h1 : -9223372036854775808 ≤ i) (h2 : i < 9223372036854775808) : wrap64 i = i := by unfold wrap64; omega
theorem rd_at {l : List S36} {i : Nat} (h : i < l.length) : rd_T36 l (i : Int) = l[i] := by
  unfold rd_T36
  rw [Int.toNat_natCast, List.getD_eq_getElem?_getD, List.getElem?_eq_getElem h]
  rfl
theorem drop_at {l : List S36} {i : Nat} (h : i < l.length) : l.drop i = l[i] :: l.drop (i + 1) := List.drop_eq_getElem_cons h
theorem lt_cast {i n : Nat} (h : i < n) : (i : Int) < (n : Int) := by omega
theorem nlt_cast {i n : Nat} (h : n ≤ i) : ¬ (i : Int) < (n : Int) := by omega
theorem ge0 (i : Nat) : (0 : Int) ≤ (i : Int) := by omega
theorem w64s {l : List S36} (hl : l.length ≤ 1000) {i : Nat} (h : i < l.length) : wrap64 ((i : Int) + 1) = ((i + 1 : Nat) : Int) := by rw [w64 (by omega) (by omega)]; rfl

/-! ### Check -/
def okd (d : S36) : Prop := 0 ≤ d.f0 ∧ d.f0 < 8 ∧ 0 ≤ d.f1 ∧ d.f1 < d.f2 ∧ d.f2 ≤ 1073741824
instance (d : S36) : Decidable (okd d) := by unfold okd; infer_instance
def chk (l : List S36) : Int := if 20 < l.length then 5 else if ∀ d ∈ l, okd d then 0 else 3

theorem check_l0 (l : List S36) (hl : l.length ≤ 1000) (n : Nat) : ∀ i : Nat, i + n = l.length → Ev (fun k => machine_Check.l0 k l (l.length : Int) i) (if ∀ d ∈ l.drop i, okd d then 0 else 3) := by
  induction n with
  | zero =>
    intro i hi
    refine Ev.step (f := fun _ => some 0) (fun k => by simp only [machine_Check.l0]; rw [if_neg (nlt_cast (by omega))]) ?_
    rw [List.drop_of_length_le (by omega), if_pos (by simp)]
    exact Ev.now _
  | succ n ih =>
    intro i hi
    have hlt : i < l.length := by omega
    rw [drop_at hlt]
    by_cases h : okd l[i]
    · refine Ev.step (f := fun k => machine_Check.l0 k l (l.length : Int) ((i + 1 : Nat) : Int)) (fun k => ?_) ?_
      · obtain ⟨h0, h1, h2, h3, h4⟩ := h
        simp only [machine_Check.l0]
        rw [if_pos (lt_cast hlt), if_pos (ge0 i), if_pos (lt_cast hlt), rd_at hlt, if_neg (by omega), if_neg (by omega), if_neg (by omega), if_neg (by omega), if_neg (by omega), w64s hl hlt]
      · have := ih (i + 1) (by omega)
        simp only [List.mem_cons, forall_eq_or_imp, h, true_and]
        exact this
    · refine Ev.step (f := fun _ => some 3) (fun k => ?_) ?_
      · simp only [machine_Check.l0]
        rw [if_pos (lt_cast hlt), if_pos (ge0 i), if_pos (lt_cast hlt), rd_at hlt]
        unfold okd at h
        by_cases c1 : l[i].f0 < 0
        · rw [if_pos c1]
        · by_cases c2 : l[i].f0 ≥ 8
          · rw [if_neg c1, if_pos c2]
          · by_cases c3 : l[i].f1 < 0
            · rw [if_neg c1, if_neg c2, if_pos c3]
            · by_cases c4 : l[i].f1 ≥ l[i].f2
              · rw [if_neg c1, if_neg c2, if_neg c3, if_pos c4]
              · rw [if_neg c1, if_neg c2, if_neg c3, if_neg c4, if_pos (by omega)]
      · rw [if_neg (fun hh => h (hh l[i] List.mem_cons_self))]
        exact Ev.now _

theorem check_ev (l : List S36) : Ev (fun k => machine_Check.f k l) (chk l) := by
  unfold machine_Check.f chk
  by_cases h : 20 < l.length
  · rw [if_pos h]
    refine Ev.congr (f := fun _ => some 5) (fun k => by rw [if_pos (by omega)]) (Ev.now _)
  · rw [if_neg h]
    refine Ev.congr (f := fun k => machine_Check.l0 k l (l.length : Int) ((0 : Nat) : Int)) (fun k => by rw [if_neg (by omega)]; rfl) ?_
    have := check_l0 l (by omega) l.length 0 (by omega)
    simpa using this

theorem rcheck_l0 (l : List S36) (hl : l.length ≤ 1000) (n : Nat) : ∀ i : Nat, i + n = l.length → Ev (fun k => garmentref48_Check.l0 k l i) (if ∀ d ∈ l.drop i, okd d then 0 else 3) := by
  induction n with
  | zero =>
    intro i hi
    refine Ev.step (f := fun _ => some 0) (fun k => by simp only [garmentref48_Check.l0]; rw [if_neg (nlt_cast (by omega))]) ?_
    rw [List.drop_of_length_le (by omega), if_pos (by simp)]
    exact Ev.now _
  | succ n ih =>
    intro i hi
    have hlt : i < l.length := by omega
    rw [drop_at hlt]
    by_cases h : okd l[i]
    · refine Ev.step (f := fun k => garmentref48_Check.l0 k l ((i + 1 : Nat) : Int)) (fun k => ?_) ?_
      · obtain ⟨h0, h1, h2, h3, h4⟩ := h
        simp only [garmentref48_Check.l0]
        rw [if_pos (lt_cast hlt), if_pos (ge0 i), rd_at hlt, if_neg (by omega), if_neg (by omega), if_neg (by omega), if_neg (by omega), if_neg (by omega), w64s hl hlt]
      · have := ih (i + 1) (by omega)
        simp only [List.mem_cons, forall_eq_or_imp, h, true_and]
        exact this
    · refine Ev.step (f := fun _ => some 3) (fun k => ?_) ?_
      · simp only [garmentref48_Check.l0]
        rw [if_pos (lt_cast hlt), if_pos (ge0 i), rd_at hlt]
        unfold okd at h
        by_cases c1 : l[i].f0 < 0
        · rw [if_pos c1]
        · by_cases c2 : l[i].f0 ≥ 8
          · rw [if_neg c1, if_pos c2]
          · by_cases c3 : l[i].f1 < 0
            · rw [if_neg c1, if_neg c2, if_pos c3]
            · by_cases c4 : l[i].f1 ≥ l[i].f2
              · rw [if_neg c1, if_neg c2, if_neg c3, if_pos c4]
              · rw [if_neg c1, if_neg c2, if_neg c3, if_neg c4, if_pos (by omega)]
      · rw [if_neg (fun hh => h (hh l[i] List.mem_cons_self))]
        exact Ev.now _

theorem rcheck_ev (l : List S36) : Ev (fun k => garmentref48_Check.f k l) (chk l) := by
  unfold garmentref48_Check.f chk
  by_cases h : 20 < l.length
  · rw [if_pos h]
    refine Ev.congr (f := fun _ => some 5) (fun k => by rw [if_pos (by omega)]) (Ev.now _)
  · rw [if_neg h]
    refine Ev.congr (f := fun k => garmentref48_Check.l0 k l ((0 : Nat) : Int)) (fun k => by rw [if_neg (by omega)]; rfl) ?_
    have := rcheck_l0 l (by omega) l.length 0 (by omega)
    simpa using this

/-! ### Up -/
theorem up_f (l : List S36) (m t : Int) : machine_Up.f l m t = some (!dn l m t) := rfl
theorem rup_l0 (l : List S36) (hl : l.length ≤ 1000) (m t : Int) (n : Nat) : ∀ i : Nat, i + n = l.length → Ev (fun k => garmentref48_Up.l0 k l m t i) (!dn (l.drop i) m t) := by
  induction n with
  | zero =>
    intro i hi
    refine Ev.step (f := fun _ => some true) (fun k => by simp only [garmentref48_Up.l0]; rw [if_neg (nlt_cast (by omega))]) ?_
    rw [List.drop_of_length_le (by omega)]
    exact Ev.now _
  | succ n ih =>
    intro i hi
    have hlt : i < l.length := by omega
    rw [drop_at hlt, dn_cons]
    by_cases h : covers m t l[i] = true
    · refine Ev.step (f := fun _ => some false) (fun k => ?_) ?_
      · simp only [covers, Bool.and_eq_true, beq_iff_eq, decide_eq_true_eq] at h
        simp only [garmentref48_Up.l0]
        rw [if_pos (lt_cast hlt), if_pos (ge0 i), rd_at hlt, if_pos h.1, if_pos h.2.1, if_pos h.2.2]
      · rw [h, Bool.true_or]
        exact Ev.now _
    · refine Ev.step (f := fun k => garmentref48_Up.l0 k l m t ((i + 1 : Nat) : Int)) (fun k => ?_) ?_
      · simp only [covers, Bool.and_eq_true, beq_iff_eq, decide_eq_true_eq] at h
        simp only [garmentref48_Up.l0]
        rw [if_pos (lt_cast hlt), if_pos (ge0 i), rd_at hlt, w64s hl hlt]
        by_cases c1 : l[i].f0 = m
        · by_cases c2 : l[i].f1 ≤ t
          · rw [if_pos c1, if_pos c2, if_neg (fun c3 => h ⟨c1, c2, c3⟩)]
          · rw [if_pos c1, if_neg c2]
        · rw [if_neg c1]
      · rw [show covers m t l[i] = false by simpa using h, Bool.false_or]
        exact ih (i + 1) (by omega)
theorem rup_ev (l : List S36) (hl : l.length ≤ 1000) (m t : Int) : Ev (fun k => garmentref48_Up.f k l m t) (!dn l m t) := by
  have := rup_l0 l hl m t l.length 0 (by omega)
  rw [List.drop_zero] at this
  exact this

/-! ### limited -/
def lim (t : Int) : Int := max 0 (min t 1073741824)
theorem lim_bd (t : Int) : 0 ≤ lim t ∧ lim t ≤ 1073741824 := by unfold lim; omega
theorem lim_eq (t : Int) : machine_limited.f t = some (lim t) := by unfold machine_limited.f lim; rw [mx_eq, mn_eq]
theorem rlim_eq (t : Int) : garmentref48_limited.f t = some (lim t) := by unfold garmentref48_limited.f lim; rw [mx_eq, mn_eq]

/-! ### stops -/
def stp (l : List S36) (m f g : Int) : List S36 → Prop := fun out => Asc f out ∧ endOf f out ≤ g ∧ ∀ t, f ≤ t → t < g → cov out t = dn l m t

theorem stops_l1 (s : List S36) (hs : s.length ≤ 1000) (n : Nat) : ∀ (i : Nat) (out : List S36), i + n = s.length → out.length ≤ i → Ev (fun k => machine_stops.l1 k out s (s.length : Int) i) ((s.drop i).foldl mstep out) := by
  induction n with
  | zero =>
    intro i out hi ho
    refine Ev.step (f := fun _ => some out) (fun k => by simp only [machine_stops.l1]; rw [if_neg (nlt_cast (by omega))]) ?_
    rw [List.drop_of_length_le (by omega)]
    exact Ev.now _
  | succ n ih =>
    intro i out hi ho
    have hlt : i < s.length := by omega
    rw [drop_at hlt, List.foldl_cons]
    have hstep : (mstep out s[i]).length ≤ i + 1 := by
      unfold mstep
      split <;> simp <;> omega
    refine Ev.step (f := fun k => machine_stops.l1 k (mstep out s[i]) s (s.length : Int) ((i + 1 : Nat) : Int)) (fun k => ?_) (ih (i + 1) _ (by omega) hstep)
    simp only [machine_stops.l1]
    rw [if_pos (lt_cast hlt), if_pos (ge0 i), if_pos (lt_cast hlt), rd_at hlt, w64s hs hlt]
    have hw : wrap64 ((out.length : Int) - 1) = (out.length : Int) - 1 := w64 (by omega) (by omega)
    rw [hw]
    by_cases c1 : 0 < out.length
    · rw [if_pos (by omega), if_pos (by omega), if_pos (by omega)]
      by_cases c2 : s[i].f1 ≤ (rd_T36 out ((out.length : Int) - 1)).f2
      · rw [if_pos c2]
        unfold mstep
        rw [if_pos ⟨c1, c2⟩, show ((out.length : Int) - 1).toNat = out.length - 1 by omega]
        rfl
      · rw [if_neg c2, if_pos (by omega)]
        unfold mstep
        rw [if_neg (fun h => c2 h.2)]
    · rw [if_neg (by omega), if_pos (by omega)]
      unfold mstep
      rw [if_neg (fun h => c1 h.1)]

theorem stops_l0 (l : List S36) (hl : l.length ≤ 1000) (m f g : Int) (R : List S36) (n : Nat) : ∀ (i : Nat) (acc : List S36), i + n = l.length → acc.length ≤ i →
    Ev (fun k => (sort_downs.f (acc ++ (l.drop i).filterMap (clip m f g))).bind fun t => machine_stops.l1 k ([] : List S36) t ((acc ++ (l.drop i).filterMap (clip m f g)).length : Int) 0) R → Ev (fun k => machine_stops.l0 k m f g acc l (l.length : Int) i) R := by
  induction n with
  | zero =>
    intro i acc hi ha h
    rw [List.drop_of_length_le (by omega)] at h
    simp only [List.filterMap_nil, List.append_nil] at h
    refine Ev.step (fun k => ?_) h
    simp only [machine_stops.l0]
    rw [if_neg (nlt_cast (by omega))]
  | succ n ih =>
    intro i acc hi ha h
    have hlt : i < l.length := by omega
    rw [drop_at hlt, List.filterMap_cons] at h
    by_cases hc : l[i].f0 = m ∧ mx l[i].f1 f < mn l[i].f2 g
    · rw [show clip m f g l[i] = some ⟨l[i].f0, mx l[i].f1 f, mn l[i].f2 g⟩ from if_pos hc] at h
      simp only at h
      refine Ev.step (fun k => ?_) (ih (i + 1) (acc ++ [⟨l[i].f0, mx l[i].f1 f, mn l[i].f2 g⟩]) (by omega) (by simp; omega) ?_)
      · simp only [machine_stops.l0]
        rw [if_pos (lt_cast hlt), if_pos (ge0 i), if_pos (lt_cast hlt), rd_at hlt, if_pos hc.1, if_pos hc.2, if_pos (by omega), w64s hl hlt]
      · simpa using h
    · rw [show clip m f g l[i] = none from if_neg hc] at h
      simp only at h
      refine Ev.step (fun k => ?_) (ih (i + 1) acc (by omega) (by omega) h)
      simp only [machine_stops.l0]
      rw [if_pos (lt_cast hlt), if_pos (ge0 i), if_pos (lt_cast hlt), rd_at hlt, w64s hl hlt]
      by_cases c1 : l[i].f0 = m
      · rw [if_pos c1, if_neg (fun c2 => hc ⟨c1, c2⟩)]
      · rw [if_neg c1]

theorem stops_ev (l : List S36) (hl : l.length ≤ 1000) (m f g : Int) (hf : 0 ≤ f) (hfg : f ≤ g) (hg : g ≤ 1073741824) : ∃ out, Ev (fun k => machine_stops.f k l m f g) out ∧ out.length ≤ 1000 ∧ stp l m f g out := by
  have hlen : (l.filterMap (clip m f g)).length ≤ 1000 := Nat.le_trans (List.length_filterMap_le _ _) hl
  have hmem : ∀ d ∈ l.filterMap (clip m f g), f ≤ d.f1 ∧ d.f1 < d.f2 ∧ d.f2 ≤ g := fun d hd => clip_mem hd
  obtain ⟨s, hs, hp, hsort⟩ := sort_downs.sorts (l.filterMap (clip m f g)) (by omega) (fun d hd => by have := hmem d hd; exact ⟨by omega, by omega⟩)
  have hsl : s.length = (l.filterMap (clip m f g)).length := hp.length_eq
  have hm := merge_all hfg hsort (fun d hd => hmem d (hp.mem_iff.1 hd))
  refine ⟨s.foldl mstep [], ?_, ?_, hm.1, hm.2.1, fun t h1 h2 => ?_⟩
  · have h0 := stops_l0 l hl m f g (s.foldl mstep []) l.length 0 [] (by omega) (by simp) (by
      simp only [List.drop_zero, List.nil_append]
      rw [hs]
      simp only [Option.bind_some]
      rw [← hsl]
      have := stops_l1 s (by omega) s.length 0 [] (by omega) (by simp)
      simpa using this)
    exact h0
  · have : ∀ (q out : List S36), (q.foldl mstep out).length ≤ q.length + out.length := by
      intro q
      induction q with
      | nil => intro out; simp
      | cons d q ih =>
        intro out
        rw [List.foldl_cons]
        have := ih (mstep out d)
        have h2 : (mstep out d).length ≤ out.length + 1 := by unfold mstep; split <;> simp
        simp only [List.length_cons]
        omega
    have := this s []
    simp at this
    omega
  · rw [hm.2.2, cov_perm hp, clip_cov m f g l t h1 h2]

/-! ### Lost -/
theorem lost_l0 (s : List S36) (hs : s.length ≤ 1000) (n : Nat) : ∀ (i : Nat) (sum a b : Int), i + n = s.length → Asc a (s.drop i) → endOf a (s.drop i) ≤ b → 0 ≤ sum → 0 ≤ a → sum ≤ a → b ≤ 1073741824 →
    Ev (fun k => machine_Lost.l0 k sum s (s.length : Int) i) (sum + total (s.drop i)) := by
  induction n with
  | zero =>
    intro i sum a b hi _ _ _ _ _ _
    refine Ev.step (f := fun _ => some sum) (fun k => by simp only [machine_Lost.l0]; rw [if_neg (nlt_cast (by omega))]) ?_
    rw [List.drop_of_length_le (by omega)]
    simp only [total, Int.add_zero]
    exact Ev.now _
  | succ n ih =>
    intro i sum a b hi h1 h2 h3 h4 h5 h6
    have hlt : i < s.length := by omega
    rw [drop_at hlt] at h1 h2 ⊢
    obtain ⟨g1, g2, g3⟩ := h1
    have he := asc_end g3
    have h2' : endOf s[i].f2 (s.drop (i + 1)) ≤ b := h2
    refine Ev.step (f := fun k => machine_Lost.l0 k (sum + (s[i].f2 - s[i].f1)) s (s.length : Int) ((i + 1 : Nat) : Int)) (fun k => ?_) ?_
    · simp only [machine_Lost.l0]
      rw [if_pos (lt_cast hlt), if_pos (ge0 i), if_pos (lt_cast hlt), rd_at hlt, w64s hs hlt, w64 (i := s[i].f2 - s[i].f1) (by omega) (by omega), w64 (by omega) (by omega)]
    · have := ih (i + 1) (sum + (s[i].f2 - s[i].f1)) s[i].f2 b (by omega) g3 h2' (by omega) (by omega) (by omega) h6
      simp only [total]
      rw [show sum + (s[i].f2 - s[i].f1 + total (s.drop (i + 1))) = sum + (s[i].f2 - s[i].f1) + total (s.drop (i + 1)) by omega]
      exact this

/-- the stops of an empty or reversed span -/
theorem stops_none (l : List S36) (hl : l.length ≤ 1000) (m f g : Int) (h : g < f) : Ev (fun k => machine_stops.f k l m f g) [] := by
  have hn : l.filterMap (clip m f g) = [] := by
    rw [List.filterMap_eq_nil_iff]
    intro d _
    unfold clip
    rw [if_neg]
    rw [mx_eq, mn_eq]
    omega
  have h0 := stops_l0 l hl m f g [] l.length 0 [] (by omega) (by simp) (by
      simp only [List.drop_zero, List.nil_append]
      rw [hn]
      obtain ⟨s, hs, hp, _⟩ := sort_downs.sorts [] (by simp) (by simp)
      rw [hs]
      have : s = [] := by simpa using hp
      subst this
      simp only [Option.bind_some]
      have := stops_l1 [] (by simp) 0 0 [] rfl (by simp)
      simpa using this)
  exact h0

theorem lost_ev (l : List S36) (hl : l.length ≤ 1000) (m a b : Int) : Ev (fun k => machine_Lost.f k l m a b) (lost (dn l m) (lim a) (lim b)) := by
  have ha := lim_bd a
  have hb := lim_bd b
  unfold machine_Lost.f
  simp only [lim_eq, Option.bind_some]
  by_cases h : lim a ≤ lim b
  · obtain ⟨out, h1, h2, h3, h4, h5⟩ := stops_ev l hl m (lim a) (lim b) ha.1 h hb.2
    refine Ev.bind h1 ?_
    have := lost_l0 out h2 out.length 0 0 (lim a) (lim b) (by omega) (by simpa using h3) (by simpa using h4) (by omega) (by omega) (by omega) (by omega)
    simp only [List.drop_zero, Int.zero_add] at this
    rw [total_lost h3 h4, lost_congr (q := dn l m) (fun t t1 t2 => h5 t t1 t2)] at this
    exact this
  · rw [lost_none _ (by omega)]
    refine Ev.bind (stops_none l hl m (lim a) (lim b) (by omega)) ?_
    have := lost_l0 [] (by simp) 0 0 0 0 0 rfl trivial (Int.le_refl _) (by omega) (by omega) (by omega) (by omega)
    simpa [total] using this

/-! ### the reference's next boundary -/
def nstep (m t : Int) (z : Int) (d : S36) : Int :=
  let z1 := if d.f0 = m ∧ d.f1 > t then mn z d.f1 else z
  if d.f0 = m ∧ d.f2 > t then mn z1 d.f2 else z1
def nxt (l : List S36) (m t z : Int) : Int := l.foldl (nstep m t) z
theorem next_l0 (l : List S36) (hl : l.length ≤ 1000) (m t : Int) (n : Nat) : ∀ (i : Nat) (z : Int), i + n = l.length → Ev (fun k => garmentref48_next.l0 k l m t z i) (nxt (l.drop i) m t z) := by
  induction n with
  | zero =>
    intro i z hi
    refine Ev.step (f := fun _ => some z) (fun k => by simp only [garmentref48_next.l0]; rw [if_neg (nlt_cast (by omega))]) ?_
    rw [List.drop_of_length_le (by omega)]
    exact Ev.now _
  | succ n ih =>
    intro i z hi
    have hlt : i < l.length := by omega
    rw [drop_at hlt]
    show Ev _ (nxt (l.drop (i + 1)) m t (nstep m t z l[i]))
    have hn := ih (i + 1) (nstep m t z l[i]) (by omega)
    by_cases c1 : l[i].f0 = m
    · by_cases c2 : l[i].f1 > t
      · refine Ev.step (f := fun k => garmentref48_next.j1 k l m t z i true) (fun k => ?_) (Ev.step (fun k => ?_) hn)
        · simp only [garmentref48_next.l0]
          rw [if_pos (lt_cast hlt), if_pos (ge0 i), rd_at hlt, if_pos c1, decide_eq_true c2]
        · simp only [garmentref48_next.j1]
          rw [if_pos trivial, if_pos (ge0 i), if_pos (lt_cast hlt), rd_at hlt, if_pos c1, w64s hl hlt]
          unfold nstep
          by_cases c3 : l[i].f2 > t
          · rw [if_pos c3, if_pos ⟨c1, c3⟩, if_pos ⟨c1, c2⟩]
          · rw [if_neg c3, if_neg (fun h => c3 h.2), if_pos ⟨c1, c2⟩]
      · refine Ev.step (f := fun k => garmentref48_next.j1 k l m t z i false) (fun k => ?_) (Ev.step (fun k => ?_) hn)
        · simp only [garmentref48_next.l0]
          rw [if_pos (lt_cast hlt), if_pos (ge0 i), rd_at hlt, if_pos c1, decide_eq_false c2]
        · simp only [garmentref48_next.j1]
          rw [if_neg (by simp), if_pos (ge0 i), if_pos (lt_cast hlt), rd_at hlt, if_pos c1, w64s hl hlt]
          unfold nstep
          by_cases c3 : l[i].f2 > t
          · rw [if_pos c3, if_pos ⟨c1, c3⟩, if_neg (fun h => c2 h.2)]
          · rw [if_neg c3, if_neg (fun h => c3 h.2), if_neg (fun h => c2 h.2)]
    · refine Ev.step (f := fun k => garmentref48_next.j1 k l m t z i false) (fun k => ?_) (Ev.step (fun k => ?_) hn)
      · simp only [garmentref48_next.l0]
        rw [if_pos (lt_cast hlt), if_pos (ge0 i), rd_at hlt, if_neg c1]
      · simp only [garmentref48_next.j1]
        rw [if_neg (by simp), if_pos (ge0 i), if_pos (lt_cast hlt), rd_at hlt, if_neg c1, w64s hl hlt]
        unfold nstep
        rw [if_neg (fun h => c1 h.1), if_neg (fun h => c1 h.1)]
theorem next_ev (l : List S36) (hl : l.length ≤ 1000) (m t z : Int) : Ev (fun k => garmentref48_next.f k l m t z) (nxt l m t z) := by
  have := next_l0 l hl m t l.length 0 z (by omega)
  rw [List.drop_zero] at this
  exact this

theorem nstep_spec (m t z : Int) (d : S36) (hz : t < z) : t < nstep m t z d ∧ nstep m t z d ≤ z ∧ (d.f0 = m → t < d.f1 → nstep m t z d ≤ d.f1) ∧ (d.f0 = m → t < d.f2 → nstep m t z d ≤ d.f2) := by
  unfold nstep
  simp only [mn_eq]
  by_cases c1 : d.f0 = m
  · by_cases c2 : d.f1 > t <;> by_cases c3 : d.f2 > t <;> simp only [c1, c2, c3, and_self, and_false, if_true, if_false] <;> exact ⟨by omega, by omega, fun _ h => by first | omega | exact h.elim, fun _ h => by first | omega | exact h.elim⟩
  · simp only [c1, false_and, if_false]
    exact ⟨hz, Int.le_refl _, fun h => h.elim, fun h => h.elim⟩
theorem nxt_spec (l : List S36) (m t : Int) : ∀ z, t < z → t < nxt l m t z ∧ nxt l m t z ≤ z ∧ ∀ d ∈ l, d.f0 = m → (t < d.f1 → nxt l m t z ≤ d.f1) ∧ (t < d.f2 → nxt l m t z ≤ d.f2) := by
  induction l with
  | nil => intro z hz; exact ⟨hz, Int.le_refl _, fun d hd => by simp at hd⟩
  | cons d l ih =>
    intro z hz
    obtain ⟨h1, h2, h3, h4⟩ := nstep_spec m t z d hz
    obtain ⟨g1, g2, g3⟩ := ih (nstep m t z d) h1
    refine ⟨g1, Int.le_trans g2 h2, fun x hx hm => ?_⟩
    rcases List.mem_cons.1 hx with rfl | hx
    · exact ⟨fun h => Int.le_trans g2 (h3 hm h), fun h => Int.le_trans g2 (h4 hm h)⟩
    · exact g3 x hx hm
/-- between two boundaries nothing changes -/
theorem nxt_same (l : List S36) (m t z : Int) (hz : t < z) : ∀ u, t ≤ u → u < nxt l m t z → dn l m u = dn l m t := by
  intro u h1 h2
  obtain ⟨_, _, h⟩ := nxt_spec l m t z hz
  rw [Bool.eq_iff_iff, dn_iff, dn_iff]
  constructor
  · rintro ⟨d, hd, hm, a1, a2⟩
    refine ⟨d, hd, hm, ?_, by omega⟩
    rcases Int.lt_or_le t d.f1 with c | c
    · have := (h d hd hm).1 c; omega
    · exact c
  · rintro ⟨d, hd, hm, a1, a2⟩
    refine ⟨d, hd, hm, by omega, ?_⟩
    have := (h d hd hm).2 a2
    omega
end Go.Proofs.Ytlglnbcglafjnaa.Z
