/- What an argument reads as, opened kind by kind: from the reading of a datum at a type (DataW.trod) to the printed words' kinds (Kd). Generic; no function of the program stands here. -/
import Derived.Test.YtlnigbhimdphoaaWWords
import Derived.Deep.Slices
import Derived.Deep.Fields
import Derived.ChangeSame
import Derived.WalkKit
import Derived.ProofKit
import Derived.OpenShut
import Derived.ShutString
import Derived.ChangeOld
import Derived.Below
import Derived.SizedLaws
import Derived.WideShapes
import Derived.Laws.IdiomArrays
namespace Go.Proofs.Ytlnigbhimdphoaa.Open
open Go Go.RowKit Go.ChangeShapes Go.WideShapes Go.Deep Go.Proofs.YtlnigbhimdphoaaW.PrintWords

/-- A kind tells what is read at a type; Q: what else is known of it. -/
def Opens {α : Type} (P : Program) (w : World) (t : TypeId) (d : Kd α) (Q : α → Prop) : Prop :=
  ∀ (H : Type) (enc : TypeId × Value → H) (base : Nat) (spare : Nat → Bool) (held : Bool) (fuel : Nat) (cs : List Value) (x : DataW H × List MemPlace), DataW.trod enc P w base spare held fuel t cs = some x → ∃ a, d.K w a cs ∧ Q a

theorem opens_int {P : Program} {w : World} {t : TypeId} {k : IntKind} (ht : P.underlying t = some (.int k)) : Opens P w t (Kd.int k) (fun n => (Lit.int k n).wf = true) := by
  intro H enc base spare held fuel cs x h
  obtain ⟨n, rfl, _, hw⟩ := DataW.trod_int ht h
  exact ⟨n, rfl, hw⟩

theorem opens_bool {P : Program} {w : World} {t : TypeId} (ht : P.underlying t = some .bool) : Opens P w t Kd.bool (fun _ => True) := by
  intro H enc base spare held fuel cs x h
  obtain ⟨n, rfl, _⟩ := DataW.trod_bool ht h
  exact ⟨n, rfl, trivial⟩

theorem opens_string {P : Program} {w : World} {t : TypeId} (ht : P.underlying t = some .string) : Opens P w t Kd.string (fun s => s.size ≤ maxLen) := by
  intro H enc base spare held fuel cs x h
  obtain ⟨n, rfl, _, hs⟩ := DataW.trod_string ht h
  exact ⟨n, rfl, hs⟩

theorem build_list {α : Type} {n : Nat} {p : Nat → α → Prop} (h : ∀ i, i < n → ∃ x, p i x) : ∃ l : List α, l.length = n ∧ ∀ i x, l[i]? = some x → p i x := by
  induction n with
  | zero => exact ⟨[], rfl, fun i x hx => by simp at hx⟩
  | succ n ih =>
    obtain ⟨l, hl, hp⟩ := ih (fun i hi => h i (Nat.lt_succ_of_lt hi))
    obtain ⟨x, hx⟩ := h n (Nat.lt_succ_self n)
    refine ⟨l ++ [x], by simp [hl], fun i y hy => ?_⟩
    by_cases hi : i < n
    · rw [List.getElem?_append_left (by omega)] at hy
      exact hp i y hy
    · rw [List.getElem?_append_right (by omega)] at hy
      have h0 : i - l.length = 0 := by
        have := (List.getElem?_eq_some_iff.1 hy).1
        simp at this
        omega
      rw [h0] at hy
      have e : i = n := by omega
      subst e
      simp at hy
      subst hy
      exact hx

theorem opens_slice {α : Type} {P : Program} {w : World} {t e : TypeId} (e' : Nat) {d : Kd α} {Q : α → Prop} (ht : P.underlying t = some (.slice e)) (hd : Opens P w e d Q) (hsz : P.cellsOf e = d.sz) : Opens P w t (Kd.slice e' d) (fun l => l.length ≤ maxLen ∧ ∀ x ∈ l, Q x) := by
  intro H enc base spare held fuel cs x h
  rcases open_slice ht h with ⟨rfl, _⟩ | ⟨a, len, cap, m, n, D, Pl, rfl, hb, hl, hm, hmm, hx, hi⟩
  · exact ⟨[], ⟨none, 0, rfl, Nat.le_refl _, Kd.C_nil d w⟩, Nat.zero_le _, fun x hx => by simp at hx⟩
  · have hlm : len ≤ m := by rw [hmm]; split <;> omega
    have hall : ∀ i, i < len → ∃ y : α, Q y ∧ ∃ cs', d.K w y cs' ∧ w.cells? base (a.add (i * P.cellsOf e)) (P.cellsOf e) = some cs' := by
      intro i hil
      obtain ⟨cs', hc, ht'⟩ := hi i (Nat.lt_of_lt_of_le hil hlm)
      obtain ⟨y, hk, hq⟩ := hd _ _ _ _ _ _ _ _ ht'
      exact ⟨y, hq, cs', hk, hc⟩
    obtain ⟨l, hll, hp⟩ := build_list hall
    subst hll
    refine ⟨l, ⟨some a, cap, rfl, hl, rfl, ?_, fun _ => ⟨a, rfl, ?_⟩⟩, Nat.le_trans hl hm, ?_⟩
    · have : maxLen ≤ 9223372036854775807 := by decide
      omega
    · intro j p hj
      obtain ⟨_, cs', hk, hc⟩ := hp j p hj
      obtain ⟨_, hcl, hat⟩ := World.cells?_some hc
      refine ⟨cs', hcl.trans hsz, hk, fun i u hu => ?_⟩
      have hil : i < P.cellsOf e := by
        have := (List.getElem?_eq_some_iff.1 hu).1
        omega
      have := hat i hil
      rw [Go.Deep.add_add, hu, hsz] at this
      exact this
    · intro y hy
      obtain ⟨i, hi', rfl⟩ := List.getElem_of_mem hy
      exact (hp i _ (List.getElem?_eq_getElem hi')).1

/-- one field of a struct -/
theorem field_of {H : Type} {enc : TypeId × Value → H} {α : Type} {P : Program} {w : World} {base : Nat} {spare : Nat → Bool} {held : Bool} {n : Nat} {d : Kd α} {Q : α → Prop} {f : Field} {cs : List Value} {xs : List (DataW H × List MemPlace)} {i m : Nat}
    (hd : Opens P w f.type d Q) (hl : xs.length = m) (hi : i < m) (hf : DataW.trod enc P w base spare held n f.type ((cs.drop f.offset).take (P.cellsOf f.type)) = xs[i]?) :
    ∃ a, d.K w a ((cs.drop f.offset).take (P.cellsOf f.type)) ∧ Q a := by
  rw [List.getElem?_eq_getElem (by omega)] at hf
  exact hd _ _ _ _ _ _ _ _ hf

theorem field_at {H : Type} {enc : TypeId × Value → H} {α : Type} {P : Program} {w : World} {base : Nat} {spare : Nat → Bool} {held : Bool} {n : Nat} {t : TypeId} {d : Kd α} {Q : α → Prop} {cs : List Value} {xs : List (DataW H × List MemPlace)} {i m : Nat}
    (hd : Opens P w t d Q) (hl : xs.length = m) (hi : i < m) (hf : DataW.trod enc P w base spare held n t cs = xs[i]?) : ∃ a, d.K w a cs ∧ Q a := by
  rw [List.getElem?_eq_getElem (by omega)] at hf
  exact hd _ _ _ _ _ _ _ _ hf

/-- an array is handed over as an aggregate -/
theorem okWide_arr {P : Program} {w : World} {r : Reach} {base : Nat} {t e : TypeId} {n : Nat} {v : Value} (ht : P.underlying t = some (.array n e)) (h : Value.okWide P w r base t v) : ∃ cs, v = .agg cs ∧ cs.size = P.cellsOf t := by
  simp only [Value.okWide, ht] at h
  obtain ⟨cs, h1, h2, _⟩ := h
  exact ⟨cs, h1, h2⟩

theorem pair_at {α β : Type} {a : Kd α} {b : Kd β} {w : World} {x : α} {y : β} {cs : List Value} {o n o' : Nat} (h0 : a.K w x ((cs.drop o).take n)) (ho : o + n = o') (h1 : b.K w y (cs.drop o')) : (Kd.pair a b).K w (x, y) (cs.drop o) := by
  refine ⟨(cs.drop o).take n, cs.drop o', ?_, h0, h1⟩
  subst ho
  rw [← List.drop_drop, List.take_append_drop]

theorem last_at {α : Type} {a : Kd α} {w : World} {x : α} {cs : List Value} {o n : Nat} (h0 : a.K w x ((cs.drop o).take n)) (ho : cs.length = o + n) : a.K w x (cs.drop o) := by
  rwa [List.take_of_length_le (by simp; omega)] at h0

end Go.Proofs.Ytlnigbhimdphoaa.Open
