/- slices.SortFunc over rows of structs of plain cells, as the printed words tell rows (Kd.R): the shelf's contract (AnyQ.slices_SortFunc_eq) turned to that form, once for all element types, closures and ranges of elements. Generic; no function of the program stands here. -/
import Derived.Test.YtlnigbhimdphoaaWWords
import Derived.Test.YtlnigbhimdphoaaWKept
import Derived.Test.YtlnigbhimdphoaaWMore
import Derived.Shelf.SlSortCmp.WholeK
import Derived.Shelf.SlSortCmp.NoneTotal
namespace Go.Proofs.Ytlnigbhimdphoaa.SortGen
open Go Go.RowKit Go.Sort Go.Shelf Go.Lib Go.Proofs.YtlnigbhimdphoaaW.PrintWords Go.Proofs.YtlnigbhimdphoaaW.PrintMore

/-- A kind whose cells are told by the value alone. -/
structure FlatKd {α : Type} (d : Kd α) (enc : α → List Value) : Prop where
  len : ∀ x, (enc x).length = d.sz
  one : ∀ x, ∀ v ∈ enc x, v.oneCell' = true
  ofK : ∀ {w x cs}, d.K w x cs → cs = enc x
  ofM : ∀ {w base ok x cs}, d.M w base ok x cs → cs = enc x
  mkM : ∀ w base ok x, d.M w base ok x (enc x)

theorem inner_get {α : Type} [Inhabited α] {R : α → List Value → Prop} {k : Nat} (hk : 0 < k) {xs : List α} {inner : List Value} {enc : α → List Value} (hl : ∀ x, (enc x).length = k) (hr : Reps R k xs inner) (hR : ∀ p c, R p c → c = enc p) (t : Nat) (ht : t < xs.length * k) :
    inner[t]? = some ((enc xs[t / k]!)[t % k]!) := by
  have hj : t / k < xs.length := Nat.div_lt_of_lt_mul (by rw [Nat.mul_comm]; exact ht)
  have h1 := hR _ _ (hr.2 (t / k) xs[t / k] (List.getElem?_eq_getElem hj))
  have hm : t % k < k := Nat.mod_lt _ hk
  have h2 : ((inner.drop (t / k * k)).take k)[t % k]? = inner[t]? := by
    rw [List.getElem?_take_of_lt hm, List.getElem?_drop, Nat.mul_comm, Nat.div_add_mod]
  rw [← h2, h1, getElem!_pos xs (t / k) hj]
  have h3 : t % k < (enc xs[t / k]).length := by rw [hl]; exact hm
  rw [List.getElem?_eq_getElem h3, getElem!_pos (enc xs[t / k]) (t % k) h3]

theorem flat_reps {α : Type} [Inhabited α] {R : α → List Value → Prop} {k : Nat} (hk : 0 < k) {enc : α → List Value} (hl : ∀ x, (enc x).length = k) (d : Array α) (hR : ∀ p, R p (enc p)) : Reps R k d.toList (flatK enc k d).toList := by
  refine ⟨by simp, fun j p hj => ?_⟩
  have hjd : j < d.size := by
    have := (List.getElem?_eq_some_iff.1 hj).1
    simpa using this
  have hp : d[j]! = p := by
    have := (List.getElem?_eq_some_iff.1 hj).2
    rw [getElem!_pos d j hjd]
    simpa using this
  have e : (((flatK enc k d).toList.drop (j * k)).take k) = enc p := by
    apply List.ext_getElem?
    intro i
    by_cases hi : i < k
    · have hlt : j * k + i < d.size * k := by
        have := Nat.mul_le_mul_right k (show j + 1 ≤ d.size from hjd)
        rw [Nat.add_mul, Nat.one_mul] at this
        omega
      rw [List.getElem?_take_of_lt hi, List.getElem?_drop]
      have h1 := get_flatK enc k d (j * k + i) hlt
      have hs : j * k + i < (flatK enc k d).size := by simpa using hlt
      rw [getElem!_pos (flatK enc k d) (j * k + i) hs] at h1
      have e1 : (j * k + i) / k = j := (blk_iff k j _ hk).1 ⟨by omega, by omega⟩
      have e2 : (j * k + i) % k = i := by rw [Nat.mod_eq_sub_div_mul, e1]; omega
      rw [e1, e2, hp] at h1
      have h3 : i < (enc p).length := by rw [hl]; exact hi
      rw [getElem!_pos (enc p) i h3] at h1
      rw [Array.getElem?_toList, Array.getElem?_eq_getElem hs, h1, List.getElem?_eq_getElem h3]
    · rw [List.getElem?_eq_none (by simp; omega), List.getElem?_eq_none (by rw [hl]; omega)]
  rw [e]
  exact hR p

theorem putCells_take {F cur : Array Value} (h : F.size ≤ cur.size) : (putCells id 0 F cur).toList.take F.size = F.toList := by
  apply List.ext_getElem?
  intro i
  by_cases hi : i < F.size
  · have hc : i < cur.size := Nat.lt_of_lt_of_le hi h
    rw [List.getElem?_take_of_lt hi, Array.getElem?_toList, Array.getElem?_toList]
    simp only [putCells, Array.getElem?_mapIdx]
    rw [Array.getElem?_eq_getElem hc, Option.map_some, if_pos ⟨Nat.zero_le _, by omega⟩, Array.getElem?_eq_getElem hi]
    simp only [Nat.sub_zero, id]
    rw [getElem!_pos F i hi]
  · rw [List.getElem?_eq_none (by simp; omega), List.getElem?_eq_none (by simp; omega)]

theorem sortWorld_facts {α : Type} [Inhabited α] (enc : α → List Value) (k : Nat) (w : World) (g n : Nat) (d : Array α) (os : Array Obj) {cur : Array Value} {e : TypeId} (hg : w.heap[g]? = some (.cells cur e (0, 0))) :
    (sortWorldK enc k w g 0 n d os).os = w.os ∧ (sortWorldK enc k w g 0 n d os).tape = w.tape ∧ (sortWorldK enc k w g 0 n d os).output = w.output ∧ w.heap.size ≤ (sortWorldK enc k w g 0 n d os).heap.size ∧
      (∀ i, i < w.heap.size → i ≠ g → (sortWorldK enc k w g 0 n d os).heap[i]? = w.heap[i]?) ∧ (sortWorldK enc k w g 0 n d os).heap[g]? = some (.cells (putCells id 0 (flatK enc k d) cur) e (0, 0)) := by
  have hlt : g < w.heap.size := (Array.getElem?_eq_some_iff.1 hg).1
  have hh : (sortWorldK enc k w g 0 n d os).heap = w.heap.modify g (onCells (putCells id 0 (flatK enc k d))) ++ os := rfl
  refine ⟨rfl, rfl, rfl, by rw [hh]; simp, fun i hi hne => ?_, ?_⟩
  · rw [hh, Array.getElem?_append_left (by simpa using hi), Array.getElem?_modify, if_neg (Ne.symm hne)]
  · rw [hh, Array.getElem?_append_left (by simpa using hlt), Array.getElem?_modify, if_pos rfl, hg]
    rfl

/-- a row of the call's own: none, or a block that holds its elements' cells -/
theorem own_cases {α β : Type} [Inhabited β] {d : Kd α} {enc : α → List Value} (F : FlatKd d enc) (hsz : 0 < d.sz) (v : β → α) {e base : Nat} {w : World} {P0 : Nat → Prop} {u : Value} {l : List β} (ho : Kd.R d e w base P0 u (l.map v)) :
    (u = .slice none 0 0 ∧ l = []) ∨ ∃ gb cap cur, u = .slice (some ⟨gb, 0, none⟩) l.length cap ∧ base ≤ gb ∧ gb < w.heap.size ∧ P0 gb ∧ l.length ≤ cap ∧ cap ≤ maxLen ∧ w.heap[gb]? = some (.cells cur e (0, 0)) ∧ cur.size = cap * d.sz ∧ HoldsK (fun x => enc (v x)) d.sz w gb 0 l.toArray := by
  obtain ⟨h0, inner, ⟨hil, hv⟩, hr⟩ := ho
  rcases hv with ⟨rfl, hn⟩ | ⟨gb, cap, cur, rfl, hge, hh, hnc, hcm, hcs, hct⟩
  · exact .inl ⟨rfl, by simpa using hn⟩
  · have hlen : (l.map v).length = l.length := List.length_map ..
    rw [hlen] at hil hnc hct ⊢
    have hlt : gb < w.heap.size := (Array.getElem?_eq_some_iff.1 hh).1
    refine .inr ⟨gb, cap, cur, rfl, hge, hlt, h0 gb rfl, hnc, hcm, hh, hcs, ?_⟩
    intro t ht
    have ht' : t < l.length * d.sz := by simpa using ht
    have hg1 := inner_get (R := fun (x : β) c => c = enc (v x)) hsz (enc := fun x => enc (v x)) (fun x => F.len (v x)) (xs := l) (inner := inner)
      ⟨by rw [hr.1, hlen], fun j p hj => F.ofM (hr.2 j (v p) (by rw [List.getElem?_map, hj]; rfl))⟩ (fun _ _ h => h) t ht'
    rw [get_flatK _ _ _ _ (by simpa using ht')]
    have e1 : (l.toArray)[t / d.sz]! = l[t / d.sz]! := by simp
    rw [e1]
    have hc1 : cur[t]? = inner[t]? := by
      rw [← hct, List.getElem?_take_of_lt ht', Array.getElem?_toList]
    refine ⟨?_, ?_⟩
    · simp only [World.cell?, Nat.zero_add]
      rw [hh]
      simp only [Option.isSome_none, Bool.false_eq_true, if_false]
      rw [hc1, hg1]
      rfl
    · simp only [World.frozen?]
      rw [hh]
      simp

/-- the row rewritten: what the printed words say of it -/
theorem own_after {α β : Type} [Inhabited β] {d : Kd α} {enc : α → List Value} (F : FlatKd d enc) (hsz : 0 < d.sz) (v : β → α) {e gb cap len n : Nat} {w0 w : World} {P0 : Nat → Prop} {cur : Array Value} (os : Array Obj) (d' : Array β) (hB : Below w0.heap.size w0 w) (hds : d'.size = len) (hge : w0.heap.size ≤ gb) (hP : P0 gb) (hnc : len ≤ cap) (hcm : cap ≤ maxLen) (hh : w.heap[gb]? = some (.cells cur e (0, 0))) (hcs : cur.size = cap * d.sz) :
    Kd.R d e (sortWorldK (fun x => enc (v x)) d.sz w gb 0 n d' os) w0.heap.size (fun k_ => (P0 k_ ∨ w.heap.size ≤ k_)) (.slice (some ⟨gb, 0, none⟩) len cap) (d'.toList.map v) ∧ Below w0.heap.size w0 (sortWorldK (fun x => enc (v x)) d.sz w gb 0 n d' os) ∧ Kept w (sortWorldK (fun x => enc (v x)) d.sz w gb 0 n d' os) (fun k_ => P0 k_) := by
  subst hds
  obtain ⟨a1, a2, a3, a4, a5, a6⟩ := sortWorld_facts (fun x => enc (v x)) d.sz w gb n d' os hh
  refine ⟨⟨?_, (flatK (fun x => enc (v x)) d.sz d').toList, ⟨?_, .inr ⟨gb, cap, _, ?_, hge, a6, ?_, hcm, ?_, ?_⟩⟩, ?_⟩, ?_, ?_⟩
  · intro k hk
    have : gb = k := by simpa [Value.ownBlock] using hk
    subst this
    exact .inl hP
  · simp
  · simp
  · simp; exact hnc
  · simpa [putCells] using hcs
  · have hs : (flatK (fun x => enc (v x)) d.sz d').size ≤ cur.size := by
      rw [size_flatK, hcs]
      exact Nat.mul_le_mul_right _ hnc
    have := putCells_take hs
    rw [size_flatK] at this
    simpa using this
  · have := flat_reps (R := fun (x : β) c => d.M (sortWorldK (fun x => enc (v x)) d.sz w gb 0 n d' os) w0.heap.size (fun k => (P0 k ∨ w.heap.size ≤ k) ∧ some k ≠ Value.ownBlock (.slice (some ⟨gb, 0, none⟩) d'.size cap)) (v x) c) hsz (fun x => F.len (v x)) d' (fun p => F.mkM _ _ _ _)
    refine ⟨by rw [this.1]; simp, fun j p hj => ?_⟩
    rw [List.getElem?_map] at hj
    obtain ⟨q, hq, rfl⟩ := Option.map_eq_some_iff.1 hj
    exact this.2 j q hq
  · refine ⟨a1.trans hB.os, a2.trans hB.tape, a3.trans hB.output, Nat.le_trans hB.size a4, fun k hk => ?_⟩
    have hkg : k ≠ gb := by omega
    exact (a5 k (Nat.lt_of_lt_of_le hk hB.size) hkg).trans (hB.block k hk)
  · exact ⟨a4, fun i hi hn => a5 i hi (fun hig => hn (by rw [hig]; exact hP))⟩

/-- slices.SortFunc over a row of the call's own, in the printed words' form. β: the elements for which the comparison is told (v: what they are). -/
theorem sort_own {P : Program} {ρ : Ren} {α β : Type} [Inhabited β] {d : Kd α} {enc : α → List Value} (F : FlatKd d enc) (hsz : 0 < d.sz) (v : β → α) (L : SlLaysF0.n6 P ρ) (aE : ∀ w, (isAgg (ρ.t 24)).run P w = .ok true w) (zE : ∀ w, (Go.sizeOf (ρ.t 24)).run P w = .ok d.sz w)
    (cf : β → β → Int) (hO : SWO (ltOf cf)) (g : Nat) (eg : ∀ args w, (callFunc g args).run P w = .ok (.enter g args) w) (hcmp : ∀ (x y : β) (W : World), Calls P g #[.agg (enc (v x)).toArray, .agg (enc (v y)).toArray] W fun e w' => e = .returned (.int .i64 (cf x y)) ∧ ∃ q os', w' = grow (W.drewN q) os')
    (e : Nat) (hempty : ∀ (p : Option Addr) (c : Nat) (W : World), Calls P (ρ.f 6) #[.slice p 0 c, .func (.func g) #[] #[]] W fun e w' => e = .returned (.tuple #[]) ∧ w' = W)
    (P0 : Nat → Prop) (u : Value) (l : List β) (hbl : l.length < 4611686018427387904) (w0 w : World) (hB : Below w0.heap.size w0 w) (ho : Kd.R d e w w0.heap.size P0 u (l.map v)) :
    Calls P (ρ.f 6) #[u, .func (.func g) #[] #[]] w fun e' w' => e' = .returned (.tuple #[]) ∧ Kd.R d e w' w0.heap.size (fun k_ => (P0 k_ ∨ w.heap.size ≤ k_)) u ((pdq (ltOf cf) l.toArray 0 l.length (Lib.bitLen l.length) true true).toList.map v) ∧ Below w0.heap.size w0 w' ∧ Kept w w' (fun k_ => P0 k_) := by
  have hperm := pdq_sorts (ltOf cf) hO l.toArray 0 l.length (Lib.bitLen l.length) true true (Nat.zero_le _) (by simp) (Or.inl rfl)
  generalize hd : pdq (ltOf cf) l.toArray 0 l.length (Lib.bitLen l.length) true true = d' at hperm ⊢
  have hds : d'.size = l.length := by simpa using hperm.1.1
  rcases own_cases F hsz v ho with ⟨rfl, rfl⟩ | ⟨gb, cap, cur, rfl, hge, hlt, hP, hnc, hcm, hh, hcs, hH⟩
  · have hd0 : d'.toList = [] := List.eq_nil_of_length_eq_zero (by simpa using hds)
    refine (hempty none 0 w).mono ?_
    rintro e' w' ⟨rfl, rfl⟩
    rw [hd0]
    exact ⟨rfl, Kd.R_nil _ _ _ _ _, hB, Kept.refl _ _⟩
  · have hcon := AnyQ.slices_SortFunc_eq L d.sz aE zE (fun x => enc (v x)) (fun x => F.len (v x)) (fun x => F.one (v x)) cf hO g #[] gb 0 cap l.toArray w eg (fun _ _ _ _ x y => hcmp x y _) hH hlt (by simpa using hbl)
    simp only [List.size_toArray] at hcon
    refine hcon.mono ?_
    rintro e' w' ⟨rfl, n, os, rfl⟩
    rw [hd]
    exact ⟨rfl, own_after F hsz v os d' hB hds hge hP hnc hcm hh hcs⟩

end Go.Proofs.Ytlnigbhimdphoaa.SortGen
