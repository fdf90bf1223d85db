/- The law MachineExact: between the beginning and the end of work the machine is up for as long as the work takes, and it is up in the last unit. -/
import Derived.Test.YtlglnbcglafjnaaZFin
import Derived.Test.YtlglnbcglafjnaaMqMachineExact
namespace Go.Proofs.Ytlglnbcglafjnaa.Z
open Go Go.RowKit Go.Proofs.Ytlglnbcglafjnaa.M Go.Proofs.YtlglnbcglafjnaaW.PrintWords
theorem lost_lim {l : List S36} (hok : ∀ d ∈ l, okd d) (m : Int) {s r : Int} (hs : 0 ≤ s) (hs2 : s ≤ 1073741824) (hr : s ≤ r) : lost (dn l m) (lim s) (lim r) = lost (dn l m) s r := by
  have e1 : lim s = s := ((lim_iff s).2 ⟨hs, hs2⟩).symm
  rw [e1]
  by_cases h : r ≤ 1073741824
  · rw [((lim_iff r).2 ⟨by omega, h⟩).symm]
  · have e2 : lim r = 1073741824 := by unfold lim; omega
    rw [e2, lost_split _ hs2 (show (1073741824 : Int) ≤ r by omega), lost_false (a := 1073741824) (fun t t1 _ => dn_after hok m t1)]
    omega
theorem chk_cases (l : List S36) : chk l = 0 ∨ chk l = 5 ∨ chk l = 3 := by
  unfold chk
  split
  · simp
  · split <;> simp
theorem MachineExact : MachineExact.Pure := by
  intro l m s n _ _ hs hn
  refine Ev.rounds ?_
  unfold garmentlaw48_MachineExact.f
  by_cases h : (l.length : Int) > 20
  · exact Ev.congr (fun k => by rw [if_pos h]) awake_then
  · refine Ev.congr (fun k => by rw [if_neg h]) ?_
    have bad : ∀ e, e ≠ 0 → (chk l = e ∨ e = 3) → Ev (fun k => machine_Finish.f k l m s n) (0, e) → Ev (fun k => (machine_Finish.f k l m s n).bind fun bt199 => if bt199.2 = 0 then if bt199.1 < s then garmentlaw48_MachineExact.j0 k l m s n bt199.1 true else if bt199.1 > 2147483648 then garmentlaw48_MachineExact.j0 k l m s n bt199.1 true else (machine_Lost.f k l m s bt199.1).bind fun t204 => garmentlaw48_MachineExact.j0 k l m s n bt199.1 (wrap64 (wrap64 (bt199.1 - s) - t204) != n) else if bt199.1 = 0 then (machine_Check.f k l).bind fun t201 => if t201 = bt199.2 then (garmentlaw48_awake.f k).bind fun t202 => some t202 else if bt199.2 = 3 then (garmentlaw48_awake.f k).bind fun t203 => some t203 else some false else some false) true := by
      intro e he hc hev
      refine Ev.bind hev ?_
      refine Ev.congr (fun k => by rw [if_neg he, if_pos rfl]) ?_
      refine Ev.bind (check_ev l) ?_
      by_cases h1 : chk l = e
      · exact Ev.congr (fun k => by rw [if_pos h1]) awake_then
      · exact Ev.congr (fun k => by rw [if_neg h1, if_pos (hc.resolve_left h1)]) awake_then
    by_cases hc : chk l = 0
    · by_cases hf : fits s n
      · obtain ⟨r, r1, r2, r3⟩ := fin_ev l m s n hc hf
        obtain ⟨hlen, hok⟩ := chk_len hc
        obtain ⟨q1, q2, q3, q4⟩ := r2
        have hf' := hf
        unfold fits at hf'
        have hl := lost_bd (dn l m) q1
        refine Ev.bind r1 ?_
        refine Ev.congr (fun k => by rw [if_pos rfl, if_neg (by omega), if_neg (by omega)]) ?_
        refine Ev.bind (lost_ev l (by omega) m s r) ?_
        rw [lost_lim hok m hf'.1 hf'.2.1 q1]
        refine Ev.step (f := fun k => (garmentlaw48_awake.f k).bind fun t => some t) (fun k => ?_) awake_then
        simp only [garmentlaw48_MachineExact.j0]
        rw [w64 (i := r - s) (by omega) (by omega), w64 (by omega) (by omega), if_neg (by simp [q2])]
        by_cases h0 : n = 0
        · rw [if_pos h0, if_pos (q3 h0)]
        · rw [if_neg h0, if_pos (by omega), w64 (by omega) (by omega), up_f, q4 (by omega)]
          rfl
      · exact bad 3 (by omega) (.inr rfl) (fin_bad l m s n hc hf)
    · exact bad (chk l) hc (.inl rfl) (fin_err l m s n hc)
end Go.Proofs.Ytlglnbcglafjnaa.Z
