/- slices.Compact of spots in a row of the call's own: of equal neighbours one stays; what comes back is the row, cut. -/
import Derived.Test.YtlnigbhimdphoaaCx0
import Derived.Test.YtlnigbhimdphoaaCysortspots
import Derived.Shelf.SlicesQ.Reverse
import Derived.Lib.SlicesCompact
import Derived.Lib.SliceRun
import Derived.Laws.StructEq
import Derived.Deep.LoopGhost
import Derived.Shelf.RegionOpenPlain
import Derived.Outline
import Derived.Lib.Hide
namespace Go.Proofs.Ytlnigbhimdphoaa.C
open Go.RowKit Go.Proofs.YtlnigbhimdphoaaW.PrintWords Go.Proofs.YtlnigbhimdphoaaW.PrintLast Go.Proofs.YtlnigbhimdphoaaW.PrintMore
set_option linter.unusedVariables false
set_option linter.unusedSimpArgs false
open Go Go.RowKit Go.Shelf Go.Lib Go.Sort Go.Proofs.Ytlnigbhimdphoaa.SortGen
instance : DecidableEq S30 := fun a b => decidable_of_iff (a.f0 = b.f0 ∧ a.f1 = b.f1) ⟨fun h => by cases a; cases b; simp_all, fun h => by subst h; exact ⟨rfl, rfl⟩⟩
def compact_spots.f (l0 : List S30) : Option (List S30) := if l0.length < 9223372036854775807 then some (compactUpTo l0.toArray l0.length) else none

theorem eqlSpot (x0 x1 y0 y1 : Int) (w : World) : Sem.run Try.prog (binOp .eql 30 (.agg #[.int .i64 x0, .int .i64 x1]) (.agg #[.int .i64 y0, .int .i64 y1])) w = .ok (.bool (x0 == y0 && x1 == y1)) w := by
  have u3 := Try.underlying3
  have a3 := Try.isAgg3
  have z3 := Try.sizeOf3
  have hS : Try.prog.underlying 30 = some (.struct (Try.prog.fieldsOf 30)) := by kernel_rfl
  have hp : Try.prog.stoodInHeld 30 = false := by kernel_rfl
  rw [run_eql_struct, show (10000 : Nat) = 9999 + 1 from rfl, run_equalIn_agg w 9999 30 _ _ hS hp]
  simp only [Program.fieldsOf, Try.underlying30]
  go_simp
  by_cases h1 : x0 = y0 <;> by_cases h2 : x1 = y1 <;> simp [h1, h2]
theorem neqSpot (x0 x1 y0 y1 : Int) (w : World) : Sem.run Try.prog (binOp .neq 30 (.agg #[.int .i64 x0, .int .i64 x1]) (.agg #[.int .i64 y0, .int .i64 y1])) w = .ok (.bool (!(x0 == y0 && x1 == y1))) w := by
  have u3 := Try.underlying3
  have a3 := Try.isAgg3
  have z3 := Try.sizeOf3
  have hS : Try.prog.underlying 30 = some (.struct (Try.prog.fieldsOf 30)) := by kernel_rfl
  have hp : Try.prog.stoodInHeld 30 = false := by kernel_rfl
  rw [run_neq_struct, show (10000 : Nat) = 9999 + 1 from rfl, run_equalIn_agg w 9999 30 _ _ hS hp]
  simp only [Program.fieldsOf, Try.underlying30]
  go_simp
  by_cases h1 : x0 = y0 <;> by_cases h2 : x1 = y1 <;> simp [h1, h2]

/-- 'clear' of spots: the cells are zero. -/
theorem clearSpot (w : World) (ty : TypeId) (b o n c : Nat) (hn : 0 < n) (hc : ∀ j, j < n * 2 → (w.cell? ⟨b, o + j, none⟩).isSome = true) (hf : ∀ j, j < n * 2 → w.frozen? ⟨b, o + j, none⟩ = false) :
    (Builtin.clear_ #[22] ty #[.slice (some ⟨b, o, none⟩) n c]).run Try.prog w = .ok (.tuple #[]) (w.setCells b o (List.replicate (n * 2) (.int .i64 0))) := by
  have hv : ∀ w, (zeroValue 30).run Try.prog w = .ok (.agg #[.int .i64 0, .int .i64 0]) w := Try.zeroValue30
  have hzc : (Builtin.zeroCells (#[.int .i64 0, .int .i64 0] : Array Value) n).toList = List.replicate (n * 2) (.int .i64 0) := by
    simp only [Builtin.zeroCells]
    apply List.ext_getElem
    · simp
    · intro i h1 h2
      have : i % 2 = 0 ∨ i % 2 = 1 := by omega
      rcases this with h | h <;> simp [h]
  have hst := run_storeCells_cells (P := Try.prog) b o (List.replicate (n * 2) (.int .i64 0)) 0 w (by simpa using hc) (by simpa using hf) (by intro v hv'; rw [List.eq_of_mem_replicate hv']; rfl)
  simp only [Nat.add_zero] at hst
  obtain ⟨m, rfl⟩ : ∃ m, n = m + 1 := ⟨n - 1, by omega⟩
  have hcs : Value.cells (.agg #[.int .i64 0, .int .i64 0]) = #[.int .i64 0, .int .i64 0] := rfl
  simp [Builtin.clear_, run_underlying Try.underlying22, hv, hcs, hzc, hst]

/-- an element's two cells -/
theorem spot_at {w : World} {g : Nat} {d : Array S30} (h : HoldsK encSpot 2 w g 0 d) {i : Nat} (hi : i < d.size) :
    (w.cell? ⟨g, i * 2, none⟩ = some (.int .i64 d[i]!.f0) ∧ w.frozen? ⟨g, i * 2, none⟩ = false) ∧ (w.cell? ⟨g, i * 2 + 1, none⟩ = some (.int .i64 d[i]!.f1) ∧ w.frozen? ⟨g, i * 2 + 1, none⟩ = false) := by
  have h0 := h.cell hi (c := 0) (by omega)
  have h1 := h.cell hi (c := 1) (by omega)
  simp only [Nat.zero_add, Nat.add_zero] at h0 h1
  exact ⟨h0, h1⟩
theorem spot_ext (x y : S30) : (x = y) ↔ (x.f0 = y.f0 ∧ x.f1 = y.f1) := ⟨fun h => by subst h; exact ⟨rfl, rfl⟩, fun h => by cases x; cases y; simp_all⟩

theorem spot_ne (x y : S30) (h : ¬ x = y) : (x.f0 == y.f0 && x.f1 == y.f1) = false := by
  rw [spot_ext] at h
  by_cases e0 : x.f0 = y.f0
  · have : ¬ x.f1 = y.f1 := fun e => h ⟨e0, e⟩
    simp [e0, this]
  · simp [e0]
theorem setMany_rest {α : Type} [Inhabited α] (enc : α → List Value) (k : Nat) (hk : ∀ x, (enc x).length = k) (d : Array α) (i m : Nat) (z : α) (zv : Value) (hz : enc z = List.replicate k zv) (hi : i + m ≤ d.size) :
    setMany (flatK enc k d) (i * k) (List.replicate (m * k) zv) = flatK enc k (Lib.lay d i (List.replicate m z)) := by
  have hls : ∀ (xs : List α) (d : Array α) (i : Nat), (Lib.lay d i xs).size = d.size := by
    intro xs
    induction xs with
    | nil => intro d i; rfl
    | cons x r ih => intro d i; rw [Lib.lay, ih]; simp
  refine ext_get! (by simp [hls]) fun t ht => ?_
  have ht' : t < d.size * k := by simpa using ht
  have k0 : 0 < k := by rcases Nat.eq_zero_or_pos k with h | h; · subst h; simp at ht'
                        · exact h
  have hlt : t / k < d.size := Nat.div_lt_of_lt_mul (by rw [Nat.mul_comm]; exact ht')
  rw [get_setMany _ _ _ t (by simpa using ht'), get_flatK _ _ _ t ht', get_flatK _ _ _ t (by simpa [hls] using ht'), List.length_replicate]
  have hg := Lib.lay_get? (List.replicate m z) d i (t / k) (by simpa using hi)
  have hl2 : t / k < (Lib.lay d i (List.replicate m z)).size := by rw [hls]; exact hlt
  rw [getElem!_pos (Lib.lay d i (List.replicate m z)) (t / k) hl2]
  rw [Array.getElem?_eq_getElem hl2] at hg
  have hmod : t % k < k := Nat.mod_lt _ k0
  have hdm := Nat.div_add_mod t k
  have e1 : (i * k ≤ t ∧ t < i * k + m * k) ↔ (i ≤ t / k ∧ t / k < i + m) := by
    rw [← Nat.add_mul, Nat.le_div_iff_mul_le k0, Nat.div_lt_iff_lt_mul k0]
  by_cases c : i ≤ t / k ∧ t / k < i + m
  · rw [if_pos (e1.2 c)]
    rw [List.length_replicate, if_pos c, List.getElem?_eq_getElem (by simp; omega)] at hg
    injection hg with hg
    rw [hg, List.getElem_replicate, hz]
    rw [getElem!_pos (List.replicate k zv) (t % k) (by simpa using hmod), getElem!_pos (List.replicate (m * k) zv) _ (by have := e1.2 c; simp; omega)]
    simp
  · rw [if_neg (fun h => c (e1.1 h))]
    rw [List.length_replicate, if_neg c, Array.getElem?_eq_getElem hlt] at hg
    injection hg with hg
    rw [hg, getElem!_pos d (t / k) hlt]
theorem setMany_one {α : Type} [Inhabited α] (enc : α → List Value) (k : Nat) (hk : ∀ x, (enc x).length = k) (d : Array α) (i : Nat) (x : α) (hi : i < d.size) :
    setMany (flatK enc k d) (i * k) (enc x) = flatK enc k (d.setIfInBounds i x) := by
  refine ext_get! (by simp) fun t ht => ?_
  have ht' : t < d.size * k := by simpa using ht
  have k0 : 0 < k := by rcases Nat.eq_zero_or_pos k with h | h; · subst h; simp at ht'
                        · exact h
  rw [get_setMany _ _ _ t (by simpa using ht'), get_flatK _ _ _ t ht', get_flatK _ _ _ t (by simpa using ht'), hk]
  by_cases a : t / k = i
  · rw [if_pos ((blk_iff k i t k0).2 a)]
    have : t - i * k = t % k := by subst a; rw [Nat.mod_eq_sub_div_mul]
    rw [this, a, getElem!_pos (d.setIfInBounds i x) i (by simpa using hi)]
    simp
  · rw [if_neg (fun h => a ((blk_iff k i t k0).1 h))]
    have hlt : t / k < d.size := Nat.div_lt_of_lt_mul (by rw [Nat.mul_comm]; exact ht')
    rw [getElem!_pos (d.setIfInBounds i x) (t / k) (by simpa using hlt), getElem!_pos d (t / k) hlt, Array.getElem_setIfInBounds]
    rw [if_neg (fun h => a h.symm)]

theorem store_world_k {w wr : World} {n g : Nat} {dk : Array S30} {i : Nat} (hi : i < dk.size) (hwr : wr = putRowK encSpot 2 (Sort.ahead w n) g 0 dk) (x : S30) :
    (((wr.setCell ⟨g, i * 2, none⟩ (.int .i64 x.f0)).setCell ⟨g, i * 2 + 1, none⟩ (.int .i64 x.f1)).drew) = putRowK encSpot 2 (Sort.ahead w (n + 1)) g 0 (dk.setIfInBounds i x) := by
  subst hwr
  have h := setCells_putRow (Sort.ahead w (n + 1)) g 0 (encSpot x) (i * 2) (flatK encSpot 2 dk) (by simp [encSpot]; omega)
  rw [setMany_one encSpot 2 (fun _ => rfl) dk i x hi, Nat.zero_add] at h
  unfold putRowK
  rw [← h, ← ahead_drew]
  rfl

set_option maxHeartbeats 4000000 in
set_option maxRecDepth 100000 in
theorem compact_walk (g cap : Nat) (d : Array S30) (w : World) (hH : HoldsK encSpot 2 w g 0 d) (hsz : d.size < 9223372036854775807) (hcap : d.size ≤ cap) :
    Calls Try.prog 40 #[.slice (some ⟨g, 0, none⟩) d.size cap] w fun e w' => e = .returned (.slice (some ⟨g, 0, none⟩) (compactUpTo d d.size).length cap) ∧ ∃ q, w' = putRowK encSpot 2 (Sort.ahead w q) g 0 (compactUpTo d d.size ++ List.replicate (d.size - (compactUpTo d d.size).length) z30).toArray := by
  have hu := Try.underlying30
  have heq := eqlSpot
  have hne := neqSpot
  have mixed : Try.prog.follows .mixedOrders = true := by kernel_rfl
  have same : ∀ q, (∀ j, j < d.size → keeps d j = true) → (compactUpTo d d.size).length = d.size ∧ w.drewN q = putRowK encSpot 2 (Sort.ahead w q) g 0 (compactUpTo d d.size ++ List.replicate (d.size - (compactUpTo d d.size).length) z30).toArray := by
    intro q hall
    have e : compactUpTo d d.size = d.toList := by rw [compactUpTo_all d _ hall, range_map_get]
    rw [e]
    refine ⟨by simp, ?_⟩
    simp only [Array.length_toList, Nat.sub_self, List.replicate_zero, List.append_nil, Array.toArray_toList]
    exact (putRowK_self encSpot 2 (Sort.ahead w q) g 0 d (holdsK_ahead encSpot 2 w q g 0 d hH)).symm
  have HS := Lib.hid same
  clear same
  by_cases h2 : d.size < 2
  · have HH := Lib.hid hH
    clear hH
    go_enter Try.func40, Try.ntmps40
    go_wp2
    go_ret
    obtain ⟨e1, e2⟩ := HS.out 0 (fun j hj => keeps_lt_one d j (by omega))
    exact ⟨by rw [e1]; rfl, 0, e2⟩
  · go_enter Try.func40, Try.ntmps40
    go_wp2
    go_loopg [3] d.size (fun gg s3 wr => ∃ k q : Nat, 1 ≤ k ∧ k ≤ d.size ∧ d.size - k ≤ gg ∧ s3 = .int .i64 k ∧ wr = w.drewN q ∧ ∀ j, j < k → keeps d j = true)
    case atStart => exact ⟨1, 0, Nat.le_refl _, by omega, by omega, rfl, rfl, keeps_lt_one d⟩
    case round =>
      obtain ⟨k, q, hk1, hk, hg, rfl, rfl, hall⟩ := hrel
      by_cases hlt : k < d.size
      · obtain ⟨⟨c0, f0⟩, ⟨c1, f1⟩⟩ := spot_at hH hlt
        obtain ⟨⟨p0, g0⟩, ⟨p1, g1⟩⟩ := spot_at hH (show k - 1 < d.size by omega)
        have A := Lib.hid hall
        have HH := Lib.hid hH
        clear hall hH f0 f1 g0 g1
        generalize hx : d[k]! = x at c0 c1
        generalize hy : d[k - 1]! = y at p0 p1
        have B := Lib.hid (show d[k]! = x ∧ d[k - 1]! = y from ⟨hx, hy⟩)
        clear hx hy
        by_cases hdup : x = y
        · subst hdup
          go_wp2_with fail
          go_region_o
          go_wp2
          clear c0 c1 p0 p1
          go_loopg [3, 5] d.size (fun gg s3 s5 wr => ∃ (kk k2 q2 : Nat) (dk : Array S30), s3 = .int .i64 kk ∧ s5 = .int .i64 k2 ∧ 1 ≤ k2 ∧ k + k2 ≤ d.size ∧ d.size - (k + k2) ≤ gg ∧ wr = putRowK encSpot 2 (Sort.ahead w q2) g 0 dk ∧ CompInv d (k + k2) kk dk)
          case atStart => exact ⟨k, 1, q + 1, d, rfl, rfl, Nat.le_refl _, by omega, by omega, (putRowK_self encSpot 2 (Sort.ahead w (q + 1)) g 0 d (holdsK_ahead encSpot 2 w (q + 1) g 0 d HH.out)).symm, CompInv.start A.out (keeps_neg (by omega) (by rw [B.out.1, B.out.2]))⟩
          case round =>
            obtain ⟨kk, k2, q2, dk, rfl, rfl, h1, hle, hg2, hwr, hI⟩ := hrel
            have hkk := hI.lt
            have hds := hI.size
            have hHk : HoldsK encSpot 2 wr g 0 dk := by rw [hwr]; exact holdsK_putRowK encSpot 2 _ g 0 d dk (holdsK_ahead encSpot 2 w q2 g 0 d HH.out) hds
            have W2 := Lib.hid (show wr = putRowK encSpot 2 (Sort.ahead w q2) g 0 dk from hwr)
            have I2 := Lib.hid (show CompInv d (k + k2) kk dk from hI)
            clear hwr
            by_cases hlt2 : k + k2 < d.size
            · obtain ⟨⟨m0, mf0⟩, ⟨m1, mf1⟩⟩ := spot_at hHk (i := k + k2) (by omega)
              obtain ⟨⟨r0, rf0⟩, ⟨r1, rf1⟩⟩ := spot_at hHk (i := k + k2 - 1) (by omega)
              obtain ⟨⟨o0, of0⟩, ⟨o1, of1⟩⟩ := spot_at hHk (i := kk) (by omega)
              clear mf0 mf1 rf0 rf1
              rw [hI.high (k + k2) (by omega), show (k + k2) * 2 = k * 2 + k2 * 2 by omega] at m0 m1
              rw [hI.high (k + k2 - 1) (by omega), show (k + k2 - 1) * 2 = k * 2 + (k2 - 1) * 2 by omega] at r0 r1
              clear hHk hI
              generalize hu2 : d[k + k2]! = u at m0 m1
              generalize hv2 : d[k + k2 - 1]! = v at r0 r1
              generalize dk[kk]! = old at o0 o1
              have C := Lib.hid (show d[k + k2]! = u ∧ d[k + k2 - 1]! = v from ⟨hu2, hv2⟩)
              clear hu2 hv2
              by_cases huv : u = v
              · subst huv
                go_wp2_with fail
                go_region_o
                go_wp2
                go_roundg (d.size - (k + (k2 + 1)))
                case measure => omega
                case rel => exact ⟨kk, k2 + 1, q2 + 1, dk, rfl, by go_num, by omega, by omega, Nat.le_refl _, by rw [W2.out]; rfl, I2.out.skip (keeps_neg (by omega) (by rw [C.out.1, C.out.2]))⟩
              · have hb := spot_ne u v huv
                go_wp2_with fail
                go_region_o
                go_wp2
                go_roundg (d.size - (k + (k2 + 1)))
                case measure => omega
                case rel => exact ⟨kk + 1, k2 + 1, q2 + 1, dk.setIfInBounds kk u, by go_num, by go_num, by omega, by omega, Nat.le_refl _, store_world_k (by omega) W2.out u, by have := I2.out.keep hlt2 (keeps_pos (by rw [C.out.1, C.out.2]; exact huv)); rwa [C.out.1] at this⟩
            · have hend : k + k2 = d.size := by omega
              have hcl : ∀ ty, (Builtin.clear_ #[22] ty #[.slice (some ⟨g, kk * 2, none⟩) (d.size - kk) (cap - kk)]).run Try.prog wr = .ok (.tuple #[]) (wr.setCells g (kk * 2) (List.replicate ((d.size - kk) * 2) (.int .i64 0))) :=
                fun ty => clearSpot wr ty g (kk * 2) (d.size - kk) (cap - kk) (by omega) (fun j hj => by
                  have := (hHk (kk * 2 + j) (by simp; omega)).1
                  rw [Nat.zero_add] at this
                  rw [this]; rfl) (fun j hj => by
                  have := (hHk (kk * 2 + j) (by simp; omega)).2
                  rwa [Nat.zero_add] at this)
              clear hHk hI
              go_wp2
              go_ret
              have hI := I2.out
              rw [hend] at hI
              refine ⟨by rw [hI.len]; rfl, q2, ?_⟩
              rw [hI.len, ← hI.done z30, W2.out]
              have h := setCells_putRow (Sort.ahead w q2) g 0 (List.replicate ((d.size - kk) * 2) (.int .i64 0)) (kk * 2) (flatK encSpot 2 dk) (by simp; omega)
              rw [setMany_rest encSpot 2 (fun _ => rfl) dk kk (d.size - kk) z30 (.int .i64 0) rfl (by omega), Nat.zero_add] at h
              exact h
        · have hb := spot_ne x y hdup
          go_wp2_with fail
          go_region_o
          go_wp2
          go_roundg (d.size - (k + 1))
          case measure => omega
          case rel =>
            refine ⟨k + 1, q + 1, by omega, by omega, Nat.le_refl _, by go_num, rfl, fun j hj => ?_⟩
            by_cases e : j = k
            · subst e
              exact keeps_pos (by rw [B.out.1, B.out.2]; exact hdup)
            · exact A.out j (by omega)
      · have : k = d.size := by omega
        subst this
        have HH := Lib.hid hH
        clear hH
        go_wp2
        go_ret
        obtain ⟨e1, e2⟩ := HS.out q hall
        exact ⟨by rw [e1]; rfl, q, e2⟩

set_option maxHeartbeats 4000000 in
theorem compact_none (w : World) :
    Calls Try.prog 40 #[.slice none 0 0] w fun e w' => e = .returned (.slice none 0 0) ∧ ∃ q, w' = w.drewN q := by
  have mixed : Try.prog.follows .mixedOrders = true := by kernel_rfl
  go_enter Try.func40, Try.ntmps40
  go_wp2
  go_ret
  exact ⟨rfl, 0, rfl⟩

theorem compactUpTo_le {α : Type} [Inhabited α] [DecidableEq α] (d : Array α) (m : Nat) : (compactUpTo d m).length ≤ m := by
  unfold compactUpTo
  rw [List.length_map]
  exact Nat.le_trans (List.length_filter_le _ _) (by simp)

theorem compact_spots.calls (P0_ : Nat → Prop) (u9000_ : Value) (l0 : List S30) (r : List S30) (w0 w : World) (hB : Below w0.heap.size w0 w) (ho0 : Kd.R k30 30 w w0.heap.size P0_ u9000_ l0) (h : compact_spots.f l0 = some r) :
    Calls Try.prog 40 #[u9000_] w fun e w' => ∃ v0_, e = .returned v0_ ∧ Kd.R k30 30 w' w0.heap.size (fun k_ => (P0_ k_ ∨ w.heap.size ≤ k_)) v0_ r ∧ Below w0.heap.size w0 w' ∧ Kept w w' (fun k_ => P0_ k_) := by
  unfold compact_spots.f at h
  split at h
  · rename_i hl
    injection h with h
    subst h
    rcases own_cases (l := l0) flatSpot (by decide) id (by simpa using ho0) with ⟨rfl, rfl⟩ | ⟨gb, cap, cur, rfl, hge, hlt, hP, hnc, hcm, hh, hcs, hH⟩
    · refine (compact_none w).mono ?_
      rintro e w' ⟨rfl, q, rfl⟩
      exact ⟨_, rfl, Kd.R_nil _ _ _ _ _, ⟨hB.os, hB.tape, hB.output, hB.size, hB.block⟩, ⟨Nat.le_refl _, fun _ _ _ => rfl⟩⟩
    · refine (compact_walk gb cap l0.toArray w hH (by simp; omega) (by simpa using hnc)).mono ?_
      simp only [List.size_toArray]
      rintro e w' ⟨rfl, n, hw⟩
      have hle := compactUpTo_le l0.toArray l0.length
      generalize hc : compactUpTo l0.toArray l0.length = c at hw hle ⊢
      have e1 : w' = sortWorldK (fun x => encSpot (id x)) k30.sz w gb 0 n (c ++ List.replicate (l0.length - c.length) z30).toArray #[] := by
        rw [hw]
        unfold sortWorldK
        rw [grow_empty]
        rfl
      rw [e1]
      have := own_after (e := 30) flatSpot (by decide) id (n := n) #[] (c ++ List.replicate (l0.length - c.length) z30).toArray hB (by simp; omega : _ = l0.length) hge hP hnc hcm hh hcs
      simp only [List.map_id_fun, id_eq] at this
      obtain ⟨a, b, k⟩ := this
      have a' := Kd.R_take (m := c.length) a (by simp)
      rw [List.take_left' rfl] at a'
      exact ⟨_, rfl, a', b, k⟩
  · exact absurd h (by simp)

end Go.Proofs.Ytlnigbhimdphoaa.C
