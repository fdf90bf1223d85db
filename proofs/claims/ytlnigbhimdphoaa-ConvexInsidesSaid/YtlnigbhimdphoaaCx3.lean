-- PRINTED by print.py (a twelfth state) out of the translation. Not trusted: Lean checks it.
import Derived.Test.YtlnigbhimdphoaaCx0
import Derived.Test.YtlnigbhimdphoaaCx2
namespace Go.Proofs.Ytlnigbhimdphoaa.C
open Go.RowKit Go.Proofs.YtlnigbhimdphoaaW.PrintWords Go.Proofs.YtlnigbhimdphoaaW.PrintLast Go.Proofs.YtlnigbhimdphoaaW.PrintMore
attribute [local go_sem] max2_int min2_int max_two min_two max_three min_three max_four min_four Go.Proofs.Ytlnigbhimdphoaa.Aid.isSome_setCell   -- for this text's walks alone
set_option linter.unusedVariables false
set_option linter.unusedSimpArgs false

/-! ### convex_chain: function 41 -/
mutual
def convex_chain.l0 : Nat → List (S30) → List (S30) → Int → Int → Option ((List (S30)))
 | 0,_,_,_,_=>none
 | k + 1,x3,x6,x7,x8=>if x8 < x7 then (if 0 ≤ x8 then (if x8 < (x6.length : Int) then (convex_chain.l1 k x3 x6 x7 x8 ((rd_T30 x6 x8).f0) ((rd_T30 x6 x8).f1)) else (none)) else (none)) else (if 0 ≤ (wrap64 ((x3.length : Int) - 1)) then (if (wrap64 ((x3.length : Int) - 1)) ≤ (x3.length : Int) then (some (x3.take ((wrap64 ((x3.length : Int) - 1)) : Int).toNat)) else (none)) else (none))
def convex_chain.l1 : Nat → List (S30) → List (S30) → Int → Int → Int → Int → Option ((List (S30)))
 | 0,_,_,_,_,_,_=>none
 | k + 1,x3,x6,x7,x8,x112000,x112001=>if (x3.length : Int) > 1 then (if 0 ≤ (wrap64 ((x3.length : Int) - 2)) then (if (wrap64 ((x3.length : Int) - 2)) < (x3.length : Int) then (if 0 ≤ (wrap64 ((x3.length : Int) - 1)) then (if (wrap64 ((x3.length : Int) - 1)) < (x3.length : Int) then ((convex_cross.f ((rd_T30 x3 (wrap64 ((x3.length : Int) - 2))).f0) ((rd_T30 x3 (wrap64 ((x3.length : Int) - 2))).f1) ((rd_T30 x3 (wrap64 ((x3.length : Int) - 1))).f0) ((rd_T30 x3 (wrap64 ((x3.length : Int) - 1))).f1) x112000 x112001).bind fun t114=>(if t114 ≤ 0 then (if (wrap64 ((x3.length : Int) - 1)) ≤ (x3.length : Int) then (convex_chain.l1 k (x3.take ((wrap64 ((x3.length : Int) - 1)) : Int).toNat) x6 x7 x8 x112000 x112001) else (none)) else (if x3.length < 8796093022208 then (convex_chain.l0 k (x3 ++ [(⟨x112000,x112001⟩ : S30)]) x6 x7 (wrap64 (x8 + 1))) else (none)))) else (none)) else (none)) else (none)) else (none)) else (if x3.length < 8796093022208 then (convex_chain.l0 k (x3 ++ [(⟨x112000,x112001⟩ : S30)]) x6 x7 (wrap64 (x8 + 1))) else (none))
end
def convex_chain.f (k : Nat) (l0 : List (S30)) : Option ((List (S30))):=convex_chain.l0 k ([] : List (S30)) l0 (l0.length : Int) 0
theorem convex_chain.mono_l : ∀ k,(∀ y0 y1 y2 y3,LeO (convex_chain.l0 k y0 y1 y2 y3) (convex_chain.l0 (k + 1) y0 y1 y2 y3))∧(∀ y0 y1 y2 y3 y4 y5,LeO (convex_chain.l1 k y0 y1 y2 y3 y4 y5) (convex_chain.l1 (k + 1) y0 y1 y2 y3 y4 y5))
 | 0=>⟨fun _ _ _ _ r h=>by simp [convex_chain.l0] at h,fun _ _ _ _ _ _ r h=>by simp [convex_chain.l1] at h⟩
 | k + 1=>by
  obtain ⟨ih0,ih1⟩:=convex_chain.mono_l k
  refine ⟨?_,?_⟩
  ·
   intro y0 y1 y2 y3
   unfold convex_chain.l0
   repeat' first
   | (with_reducible exact ih0 _ _ _ _)
   | (with_reducible exact ih1 _ _ _ _ _ _)
   | (with_reducible exact LeO.refl _)
   | (with_reducible exact LeO.none _)
   | (with_reducible refine LeO.ite ?_ ?_)
   | (with_reducible refine LeO.bind ?_ (fun _=>?_))
   | exact ih0 _ _ _ _
   | exact ih1 _ _ _ _ _ _
   | exact LeO.none _
   | refine LeO.ite ?_ ?_
   | refine LeO.bind ?_ (fun _=>?_)
  intro y0 y1 y2 y3 y4 y5
  unfold convex_chain.l1
  repeat' first
  | (with_reducible exact ih0 _ _ _ _)
  | (with_reducible exact ih1 _ _ _ _ _ _)
  | (with_reducible exact LeO.refl _)
  | (with_reducible exact LeO.none _)
  | (with_reducible refine LeO.ite ?_ ?_)
  | (with_reducible refine LeO.bind ?_ (fun _=>?_))
  | exact ih0 _ _ _ _
  | exact ih1 _ _ _ _ _ _
  | exact LeO.none _
  | refine LeO.ite ?_ ?_
  | refine LeO.bind ?_ (fun _=>?_)
theorem convex_chain.mono : ∀ a0 k,LeO (convex_chain.f k a0) (convex_chain.f (k + 1) a0):=by
 intro a0 k
 obtain ⟨ih0,ih1⟩:=convex_chain.mono_l k
 unfold convex_chain.f
 repeat' first
   | (with_reducible exact ih0 _ _ _ _)
   | (with_reducible exact ih1 _ _ _ _ _ _)
   | (with_reducible exact LeO.refl _)
   | (with_reducible exact LeO.none _)
   | (with_reducible refine LeO.ite ?_ ?_)
   | (with_reducible refine LeO.bind ?_ (fun _=>?_))
   | exact ih0 _ _ _ _
   | exact ih1 _ _ _ _ _ _
   | exact LeO.none _
   | refine LeO.ite ?_ ?_
   | refine LeO.bind ?_ (fun _=>?_)
def convex_chain.T5 : Bool × List (List Nat × List Nat):=(true,[([],[]),([0],[0]),([1],[1]),([2],[2]),([3],[3]),([3],[3]),([5,3],[3,5]),([6,3],[3,6]),([4,7,3],[3,4,7]),([8,3],[3,8]),([3],[3]),([3],[3]),([11,3],[3,11]),([12,3],[3,12]),([10,13,3],[3,10,13]),([14,3],[3,14]),([3],[3]),([9,15,16,3,3],[3,9,15,16]),([17,3],[3,17]),([3,18],[3,18])])
def convex_chain.B5 : List Nat:=[0,1,3,7,15,15,47,111,255,511,15,15,2063,6159,15375,31759,15,131071,262143,524287]
theorem convex_chain.tab5 : rtab .any (opsOf Try.f41 5) = convex_chain.T5:=by kernel_rfl
theorem convex_chain.bits5 : waitsOk convex_chain.T5.2 convex_chain.B5 = true:=by kernel_rfl
set_option maxHeartbeats 8000000 in
set_option maxRecDepth 100000 in
theorem convex_chain.calls (k : Nat) (A0 : Option Addr) (c0 : Nat) (l0 : List (S30)) (r : List (S30)) (w : World) (hr0 : Kd.C k30 w A0 l0.length l0) (hc0 : l0.length ≤ c0) (h : convex_chain.f k l0 = some r) :
  Calls Try.prog 41 #[.slice A0 l0.length c0] w fun e w'=>∃ v0_ : Value,e = .returned (v0_)∧Kd.R k30 30 w' w.heap.size (fun _=>True) v0_ r∧Below w.heap.size w w':=by
 have hu30:=Try.underlying30
 have HR0:=Aside0.mk hr0
 have HC0:=Aside0.mk hc0
 clear hr0 hc0
 have HB:=Aside0.mk (Below.refl w.heap.size w)
 have H : (convex_chain.l0 k ([] : List (S30)) l0 (l0.length : Int) 0) = some r:=h
 clear h
 have H':=Aside0.mk H
 clear H
 go_enter Try.func41,Try.ntmps41
 go_wp2
 go_loopg [3,8] k (fun kq v3 v8 w'=>∃ (x3_1 : List (S30)) (x8_1 : Int),v8 = .int .i64 x8_1∧Aside0 (convex_chain.l0 kq x3_1 l0 (l0.length : Int) x8_1 = some r)∧Aside0 (kq ≤ k)∧Aside0 (Kd.R k30 30 w' w.heap.size (fun _=>True) v3 x3_1)∧Aside0 (Below w.heap.size w w'))
 case atStart=>exact ⟨(([] : List (S30))),(0),(by first|rfl|(simp;done)|(simp [*];done)),H',⟨Nat.le_refl _⟩,⟨by first|exact Kd.R_nil _ _ _ _ _|exact Kd.N_nil _ _ _ _ _|exact Kd.V_nil _ _ _ _ _|exact Kd.Q_nil _ _ _ _ _|exact Kd.S_nil _ _ _ _ _⟩,⟨by repeat (first|(with_reducible first|exact HB.out|apply ba_|apply bn_|apply bd_)|exact HB.out)⟩⟩
 case round =>
  clear H'
  obtain ⟨x3_1,x8_1,rfl,HA,HK1,HO_3,HB⟩:=hrel
  cases gk with
  | zero=>exact absurd HA.out (by simp [convex_chain.l0])
  | succ k1 =>
   have H:=HA.out
   clear HA
   simp only [convex_chain.l0] at H
   by_cases c2 : x8_1 < (l0.length : Int)
   ·
    rw [if_pos c2] at H
    have c2b0 : decide (x8_1 < (l0.length : Int)) = true:=decide_eq_true c2
    clear c2
    by_cases c3 : 0 ≤ x8_1
    ·
     rw [if_pos c3] at H
     have c3b0 : decide (0 ≤ x8_1) = true:=decide_eq_true c3
     clear c3
     by_cases c4 : x8_1 < (l0.length : Int)
     ·
      rw [if_pos c4] at H
      have c4b0 : decide (x8_1 < (l0.length : Int)) = true:=decide_eq_true c4
      clear c4
      have H':=Aside0.mk H
      clear H
      have p110 : 0 ≤ (x8_1 : Int):=of_decide_eq_true (by first|(with_reducible assumption)|assumption)
      have q110 : x8_1 < (l0.length : Int):=of_decide_eq_true (by first|(with_reducible assumption)|assumption)
      obtain ⟨ad110,e110,hx110_0,hx110_1⟩:=at_T30 HR0.out x8_1 p110 q110
      cases e110
      replace hx110_0:=(HB.out.cell (bl_ w _ hx110_0)).trans hx110_0
      replace hx110_1:=(HB.out.cell (bl_ w _ hx110_1)).trans hx110_1
      replace p110:=eq_true p110
      replace q110:=eq_true q110
      go_wp2_with (first|((with_reducible refine gate_dst (N:=5) rfl ?_);(try (refine gate_guard (by rfl) ?_;dsimp only));refine box_event ?hg (N:=5) ?hd (cs:=#[.int .i64 0,.int .i64 0]) (t:=30) ?hr ?_;(case hd=>rfl);(case hg=>rfl);(case hr=>first|(go_simp;done)|(go_simp;rfl));intro gb111 hg w5 hbox hb;have n0_:=Aside0.mk (Kd.R_below (Kd.R_elderB (by (with_reducible repeat (first|apply ra_|apply rn_|apply rd_));exact HO_3.out) gb111 (Nat.le_of_eq hg.symm)) hb);have n1_:=Aside0.mk (below_step (by repeat (first|(with_reducible first|exact HB.out|apply ba_|apply bn_|apply bd_)|exact HB.out)) hb);have n2_:=Aside0.mk (hbox);have n3_:=Aside0.mk ((by rw [hg];exact (below_size (by repeat (first|(with_reducible first|exact HB.out|apply ba_|apply bn_|apply bd_)|exact HB.out))) : w.heap.size ≤ gb111));have n4_:=Aside0.mk ((by rw [hg];exact (below_size (by repeat (first|(with_reducible first|exact HB.out|apply ba_|apply bn_|apply bd_)|exact HB.out))) : w.heap.size ≤ gb111));clear HO_3;clear HB;have HO_3:=n0_;have HB:=n1_;have BK111:=n2_;have GW111:=n3_;have GE111:=n4_;clear n0_ n1_ n2_ n3_ n4_;clear hb hbox hg;have hcz6_0 : w5.cell? ⟨gb111,0,none⟩ = some (.int .i64 0):=(blk_cell BK111.out 0).trans rfl;have hcz6_1 : w5.cell? ⟨gb111,1,none⟩ = some (.int .i64 0):=(blk_cell BK111.out 1).trans rfl;have hfz6_0:=blk_frozen BK111.out 0;have hfz6_1:=blk_frozen BK111.out 1))
      go_loopg [3] k1 (fun kq v3 w'=>∃ (x3_2 : List (S30)),Aside0 (convex_chain.l1 kq x3_2 l0 (l0.length : Int) x8_1 ((rd_T30 l0 x8_1).f0) ((rd_T30 l0 x8_1).f1) = some r)∧Aside0 (kq ≤ k1)∧Aside0 (Kd.R k30 30 w' w.heap.size (fun k_=>k_ ≠ gb111) v3 x3_2)∧Aside0 (w'.heap[gb111]? = some (.cells #[.int .i64 ((rd_T30 l0 x8_1).f0),.int .i64 ((rd_T30 l0 x8_1).f1)] 30 (0,0)))∧Aside0 (Below w.heap.size w w'))
      case atStart=>exact ⟨(x3_1),H',⟨Nat.le_refl _⟩,⟨by (with_reducible repeat (first|apply ra_|apply rn_|apply rd_));exact Kd.R_mono (Kd.R_far (p:=⟨gb111,1,none⟩) (Kd.R_far (p:=⟨gb111,0,none⟩) (Kd.R_mono HO_3.out (fun k_ hk=>(⟨hk,hk.2⟩ : _∧k_ ≠ gb111))) (fun _ hk=>hk.2) (.int .i64 ((rd_T30 l0 x8_1).f0))) (fun _ hk=>hk.2) (.int .i64 ((rd_T30 l0 x8_1).f1))) (fun _ hk=>hk.1.2)⟩,⟨by (with_reducible repeat (first|refine kn_ ?_ _|refine kd_ ?_|refine ka_ ?_ _));refine blk_put (cs:=#[.int .i64 ((rd_T30 l0 x8_1).f0),.int .i64 0]) ?_ 1 _ rfl;(with_reducible repeat (first|refine kn_ ?_ _|refine kd_ ?_|refine ka_ ?_ _));refine blk_put (cs:=#[.int .i64 0,.int .i64 0]) ?_ 0 _ rfl;(with_reducible repeat (first|refine kn_ ?_ _|refine kd_ ?_|refine ka_ ?_ _));exact BK111.out⟩,⟨by repeat (first|(with_reducible first|exact HB.out|apply ba_|apply bn_|apply bd_|refine below_set ?_ GE111.out)|exact HB.out)⟩⟩
      case round =>
       clear H'
       try clear p1
       try clear q1
       try clear hx1
       try clear c2
       try clear c2b0
       try clear p2
       try clear c3
       try clear c3b0
       try clear c4
       try clear c4b0
       try clear hcz6_0
       try clear hcz6_1
       try clear hfz6_0
       try clear hfz6_1
       try clear hx110_0
       try clear hx110_1
       try clear p110
       try clear q110
       obtain ⟨x3_2,HA,HK2,HO_3,BK111,HB⟩:=hrel
       cases gk with
       | zero=>exact absurd HA.out (by simp [convex_chain.l1])
       | succ k2 =>
        have H:=HA.out
        clear HA
        simp only [convex_chain.l1] at H
        by_cases c7 : (x3_2.length : Int) > 1
        ·
         rw [if_pos c7] at H
         have c7b0 : decide (1 < (x3_2.length : Int)) = true:=decide_eq_true c7
         have c7b1 : decide (1 < x3_2.length) = true:=decide_eq_true (by omega)
         clear c7
         obtain ⟨ji8,hji8⟩ : ∃ j_ : Int,(wrap64 ((x3_2.length : Int) - 2)) = j_:=⟨_,rfl⟩
         replace H : (if 0 ≤ (ji8) then (if (ji8) < (x3_2.length : Int) then (if 0 ≤ (wrap64 ((x3_2.length : Int) - 1)) then (if (wrap64 ((x3_2.length : Int) - 1)) < (x3_2.length : Int) then ((convex_cross.f ((rd_T30 x3_2 (ji8)).f0) ((rd_T30 x3_2 (ji8)).f1) ((rd_T30 x3_2 (wrap64 ((x3_2.length : Int) - 1))).f0) ((rd_T30 x3_2 (wrap64 ((x3_2.length : Int) - 1))).f1) ((rd_T30 l0 x8_1).f0) ((rd_T30 l0 x8_1).f1)).bind fun t114=>(if t114 ≤ 0 then (if (wrap64 ((x3_2.length : Int) - 1)) ≤ (x3_2.length : Int) then (convex_chain.l1 k2 (x3_2.take ((wrap64 ((x3_2.length : Int) - 1)) : Int).toNat) l0 (l0.length : Int) x8_1 ((rd_T30 l0 x8_1).f0) ((rd_T30 l0 x8_1).f1)) else (none)) else (if x3_2.length < 8796093022208 then (convex_chain.l0 k2 (x3_2 ++ [(⟨((rd_T30 l0 x8_1).f0),((rd_T30 l0 x8_1).f1)⟩ : S30)]) l0 (l0.length : Int) (wrap64 (x8_1 + 1))) else (none)))) else (none)) else (none)) else (none)) else (none)) = some r:=by first|(rw [hji8] at H;exact H)|(simp only [hji8] at H ⊢;exact H)
         have hji8w : (IntKind.i64.wrap ((x3_2.length : Int) - 2)) = ji8:=(i64_w _).trans hji8
         by_cases c9 : 0 ≤ (ji8)
         ·
          rw [if_pos c9] at H
          have c9b0 : decide (0 ≤ (ji8)) = true:=decide_eq_true c9
          clear c9
          by_cases c10 : (ji8) < (x3_2.length : Int)
          ·
           rw [if_pos c10] at H
           have c10b0 : decide ((ji8) < (x3_2.length : Int)) = true:=decide_eq_true c10
           clear c10
           obtain ⟨ji11,hji11⟩ : ∃ j_ : Int,(wrap64 ((x3_2.length : Int) - 1)) = j_:=⟨_,rfl⟩
           replace H : (if 0 ≤ (ji11) then (if (ji11) < (x3_2.length : Int) then ((convex_cross.f ((rd_T30 x3_2 (ji8)).f0) ((rd_T30 x3_2 (ji8)).f1) ((rd_T30 x3_2 (ji11)).f0) ((rd_T30 x3_2 (ji11)).f1) ((rd_T30 l0 x8_1).f0) ((rd_T30 l0 x8_1).f1)).bind fun t114=>(if t114 ≤ 0 then (if (ji11) ≤ (x3_2.length : Int) then (convex_chain.l1 k2 (x3_2.take ((ji11) : Int).toNat) l0 (l0.length : Int) x8_1 ((rd_T30 l0 x8_1).f0) ((rd_T30 l0 x8_1).f1)) else (none)) else (if x3_2.length < 8796093022208 then (convex_chain.l0 k2 (x3_2 ++ [(⟨((rd_T30 l0 x8_1).f0),((rd_T30 l0 x8_1).f1)⟩ : S30)]) l0 (l0.length : Int) (wrap64 (x8_1 + 1))) else (none)))) else (none)) else (none)) = some r:=by first|(rw [hji11] at H;exact H)|(simp only [hji11] at H ⊢;exact H)
           have hji11w : (IntKind.i64.wrap ((x3_2.length : Int) - 1)) = ji11:=(i64_w _).trans hji11
           by_cases c12 : 0 ≤ (ji11)
           ·
            rw [if_pos c12] at H
            have c12b0 : decide (0 ≤ (ji11)) = true:=decide_eq_true c12
            clear c12
            by_cases c13 : (ji11) < (x3_2.length : Int)
            ·
             rw [if_pos c13] at H
             have c13b0 : decide ((ji11) < (x3_2.length : Int)) = true:=decide_eq_true c13
             clear c13
             replace H:=Option.bind_eq_some_iff.mp H
             obtain ⟨t114,A140,H⟩:=H
             replace H : (if t114 ≤ 0 then (if (ji11) ≤ (x3_2.length : Int) then (convex_chain.l1 k2 (x3_2.take ((ji11) : Int).toNat) l0 (l0.length : Int) x8_1 ((rd_T30 l0 x8_1).f0) ((rd_T30 l0 x8_1).f1)) else (none)) else (if x3_2.length < 8796093022208 then (convex_chain.l0 k2 (x3_2 ++ [(⟨((rd_T30 l0 x8_1).f0),((rd_T30 l0 x8_1).f1)⟩ : S30)]) l0 (l0.length : Int) (wrap64 (x8_1 + 1))) else (none))) = some r:=H
             have A14:=Aside0.mk A140
             clear A140
             by_cases c15 : t114 ≤ 0
             ·
              rw [if_pos c15] at H
              have c15b0 : decide (t114 ≤ 0) = true:=decide_eq_true c15
              clear c15
              by_cases c16 : (ji11) ≤ (x3_2.length : Int)
              ·
               rw [if_pos c16] at H
               have c16b0:=eq_true c16
               have c16b1 : decide ((ji11) ≤ (x3_2.length : Int)) = true:=decide_eq_true c16
               clear c16
               obtain ⟨y115,hy115⟩ : ∃ y_ : List (S30),y_ = (x3_2.take ((ji11) : Int).toNat):=⟨_,rfl⟩
               replace H : (convex_chain.l1 k2 y115 l0 (l0.length : Int) x8_1 ((rd_T30 l0 x8_1).f0) ((rd_T30 l0 x8_1).f1)) = some r:=by first|(rw [hy115];with_reducible exact H)|(have H2_:=(Option.bind_some _ _).symm.trans H;rw [hy115];with_reducible exact H2_)|(have H2_:=(Option.bind_some _ _).symm.trans H;with_reducible exact H2_)|with_reducible exact H|(rw [hy115];exact H)|exact H
               have Ny115:=Aside0.mk hy115
               clear hy115
               have H':=Aside0.mk H
               clear H
               try go_wp2
               have n0_:=Aside0.mk (rd_ HO_3.out)
               have n1_:=Aside0.mk (kd_ BK111.out)
               have n2_:=Aside0.mk (bd_ HB.out)
               clear HO_3
               clear BK111
               clear HB
               have HO_3:=n0_
               have BK111:=n1_
               have HB:=n2_
               clear n0_ n1_ n2_
               obtain ⟨Ao18,co18,eo18⟩:=Kd.R_slice HO_3.out
               (first|subst eo18|(injection eo18 with f1_ f2_ f3_;have f4_:=f1_.symm;have f5_:=f3_.symm;clear f1_ f2_ f3_;subst f4_;subst f5_))
               have p112 : 0 ≤ ((ji8) : Int):=of_decide_eq_true (by first|(with_reducible assumption)|assumption)
               have q112 : (ji8) < (x3_2.length : Int):=of_decide_eq_true (by first|(with_reducible assumption)|assumption)
               obtain ⟨ad112,e112,hx112_0,hx112_1⟩:=at_T30 (Kd.R_reads' HO_3.out).2.2 (ji8) p112 q112
               cases e112
               replace p112:=eq_true p112
               replace q112:=eq_true q112
               have p113 : 0 ≤ ((ji11) : Int):=of_decide_eq_true (by first|(with_reducible assumption)|assumption)
               have q113 : (ji11) < (x3_2.length : Int):=of_decide_eq_true (by first|(with_reducible assumption)|assumption)
               obtain ⟨ad113,e113,hx113_0,hx113_1⟩:=at_T30 (Kd.R_reads' HO_3.out).2.2 (ji11) p113 q113
               obtain rfl : ad112 = ad113:=(by injection e113)
               replace p113:=eq_true p113
               replace q113:=eq_true q113
               refine start_ (n:=20) (S:=fun w'=>w'.cell? ⟨gb111,0,none⟩ = some (.int .i64 ((rd_T30 l0 x8_1).f0))∧w'.cell? ⟨gb111,1,none⟩ = some (.int .i64 ((rd_T30 l0 x8_1).f1))∧w'.cell? (ad112.add (((ji8)).toNat * 2)) = some (.int .i64 ((rd_T30 x3_2 (ji8)).f0))∧w'.cell? ⟨(ad112.add (((ji8)).toNat * 2)).block,(ad112.add (((ji8)).toNat * 2)).off + 1,none⟩ = some (.int .i64 ((rd_T30 x3_2 (ji8)).f1))∧w'.cell? (ad112.add (((ji11)).toNat * 2)) = some (.int .i64 ((rd_T30 x3_2 (ji11)).f0))∧w'.cell? ⟨(ad112.add (((ji11)).toNat * 2)).block,(ad112.add (((ji11)).toNat * 2)).off + 1,none⟩ = some (.int .i64 ((rd_T30 x3_2 (ji11)).f1))) (ds:=[]) #[false,false,false,false,false,false,false,false,false,false,false,false,false,false,false,false,false,false,false,false] (by kernel_rfl) rfl rfl ⟨(blk_cell BK111.out 0).trans rfl,(blk_cell BK111.out 1).trans rfl,hx112_0,hx112_1,hx113_0,hx113_1⟩ (fun hHeld=>?_);refine with_tabW convex_chain.tab5 convex_chain.bits5 (fun HT_ HW_=>?_)
               generalize wr.drew = w17 at HO_3 BK111 HB hx112_0 hx112_1 hx113_0 hx113_1 hHeld ⊢
               refine pure_ (i:=0) (N:=some 12) (v:=?_) (a':=?_) #[true,false,false,false,false,false,false,false,false,false,false,false,false,false,false,false,false,false,false,false] rfl rfl (any_of HT_.out (by kernel_rfl)) (fun _ _ _ h=>h) (Or.inl ⟨by rfl,?_⟩) ?_ ?_
               rotate_left
               ·
                intro w'
                go_simp
                with_reducible rfl
               rotate_left
               ·
                simp only [Act.put,la_,l0_,l1_,i64_w,i32_w]
                rfl
               refine pure_ (i:=1) (N:=some 13) (v:=?_) (a':=?_) #[true,true,false,false,false,false,false,false,false,false,false,false,false,false,false,false,false,false,false,false] rfl rfl (any_of HT_.out (by kernel_rfl)) (fun _ _ _ h=>h) (Or.inl ⟨by rfl,?_⟩) ?_ ?_
               rotate_left
               ·
                intro w'
                go_simp
                with_reducible rfl
               rotate_left
               ·
                simp only [Act.put,la_,l0_,l1_,i64_w,i32_w]
                rfl
               refine pure_ (i:=2) (N:=some 14) (v:=?_) (a':=?_) #[true,true,true,false,false,false,false,false,false,false,false,false,false,false,false,false,false,false,false,false] rfl rfl (any_of HT_.out (by kernel_rfl)) (fun _ _ _ h=>h) (Or.inl ⟨by rfl,?_⟩) ?_ ?_
               rotate_left
               ·
                intro w'
                go_simp
                with_reducible rfl
               rotate_left
               ·
                simp only [Act.put,la_,l0_,l1_,i64_w,i32_w]
                rfl
               refine pure_ (i:=3) (N:=some 15) (v:=?_) (a':=?_) #[true,true,true,true,false,false,false,false,false,false,false,false,false,false,false,false,false,false,false,false] rfl rfl (any_of HT_.out (by kernel_rfl)) (fun _ _ _ h=>h) (Or.inl ⟨by rfl,?_⟩) ?_ ?_
               rotate_left
               ·
                intro w'
                go_simp
                with_reducible rfl
               rotate_left
               ·
                simp only [Act.put,la_,l0_,l1_,i64_w,i32_w]
                rfl
               refine pure_ (i:=4) (N:=some 16) (v:=?_) (a':=?_) #[true,true,true,true,true,false,false,false,false,false,false,false,false,false,false,false,false,false,false,false] rfl rfl (any_of HT_.out (by kernel_rfl)) (fun _ _ _ h=>h) (Or.inl ⟨by rfl,?_⟩) ?_ ?_
               rotate_left
               ·
                intro w'
                go_simp
                with_reducible rfl
               rotate_left
               ·
                simp only [Act.put,la_,l0_,l1_,i64_w,i32_w]
                rfl
               refine pure_ (i:=5) (N:=some 17) (v:=?_) (a':=?_) #[true,true,true,true,true,true,false,false,false,false,false,false,false,false,false,false,false,false,false,false] rfl rfl (any_of HT_.out (by kernel_rfl)) (fun _ _ _ h=>h) (Or.inl ⟨by rfl,?_⟩) ?_ ?_
               rotate_left
               ·
                intro w'
                go_simp
                with_reducible rfl
               rotate_left
               ·
                simp only [Act.put,la_,l0_,l1_,i64_w,i32_w]
                rfl
               refine pure_ (i:=6) (N:=some 18) (v:=?_) (a':=?_) #[true,true,true,true,true,true,true,false,false,false,false,false,false,false,false,false,false,false,false,false] rfl rfl (any_of HT_.out (by kernel_rfl)) (fun _ _ _ h=>h) (Or.inl ⟨by rfl,?_⟩) ?_ ?_
               rotate_left
               ·
                intro w'
                go_simp
                with_reducible rfl
               rotate_left
               ·
                simp only [Act.put,la_,l0_,l1_,i64_w,i32_w]
                rfl
               refine pure_ (i:=7) (N:=some 19) (v:=?_) (a':=?_) #[true,true,true,true,true,true,true,true,false,false,false,false,false,false,false,false,false,false,false,false] rfl rfl (any_of HT_.out (by kernel_rfl)) (fun _ _ _ h=>h) (Or.inl ⟨by rfl,?_⟩) ?_ ?_
               rotate_left
               ·
                intro w'
                go_simp
                with_reducible rfl
               rotate_left
               ·
                simp only [Act.put,la_,l0_,l1_,i64_w,i32_w]
                rfl
               refine pure_ (i:=8) (N:=some 20) (v:=?_) (a':=?_) #[true,true,true,true,true,true,true,true,true,false,false,false,false,false,false,false,false,false,false,false] rfl rfl (any_of HT_.out (by kernel_rfl)) (fun _ _ _ h=>h) (Or.inl ⟨by rfl,?_⟩) ?_ ?_
               rotate_left
               ·
                intro w'
                go_simp
                with_reducible rfl
               rotate_left
               ·
                simp only [Act.put,la_,l0_,l1_,i64_w,i32_w]
                rfl
               refine pure_ (i:=10) (N:=some 22) (v:=?_) (a':=?_) #[true,true,true,true,true,true,true,true,true,false,true,false,false,false,false,false,false,false,false,false] rfl rfl (any_of HT_.out (by kernel_rfl)) (fun _ _ _ h=>h) (Or.inl ⟨by rfl,?_⟩) ?_ ?_
               rotate_left
               ·
                intro w'
                go_simp
                with_reducible rfl
               rotate_left
               ·
                simp only [Act.put,la_,l0_,l1_,i64_w,i32_w]
                rfl
               refine pure_ (i:=11) (N:=some 23) (v:=?_) (a':=?_) #[true,true,true,true,true,true,true,true,true,false,true,true,false,false,false,false,false,false,false,false] rfl rfl (any_of HT_.out (by kernel_rfl)) (fun _ _ _ h=>h) (Or.inl ⟨by rfl,?_⟩) ?_ ?_
               rotate_left
               ·
                intro w'
                go_simp
                with_reducible rfl
               rotate_left
               ·
                simp only [Act.put,la_,l0_,l1_,i64_w,i32_w]
                rfl
               refine pure_ (i:=12) (N:=some 24) (v:=?_) (a':=?_) #[true,true,true,true,true,true,true,true,true,false,true,true,true,false,false,false,false,false,false,false] rfl rfl (any_of HT_.out (by kernel_rfl)) (fun _ _ _ h=>h) (Or.inl ⟨by rfl,?_⟩) ?_ ?_
               rotate_left
               ·
                intro w'
                go_simp
                with_reducible rfl
               rotate_left
               ·
                simp only [Act.put,la_,l0_,l1_,i64_w,i32_w]
                rfl
               refine pure_ (i:=13) (N:=some 25) (v:=?_) (a':=?_) #[true,true,true,true,true,true,true,true,true,false,true,true,true,true,false,false,false,false,false,false] rfl rfl (any_of HT_.out (by kernel_rfl)) (fun _ _ _ h=>h) (Or.inl ⟨by rfl,?_⟩) ?_ ?_
               rotate_left
               ·
                intro w'
                go_simp
                with_reducible rfl
               rotate_left
               ·
                simp only [Act.put,la_,l0_,l1_,i64_w,i32_w]
                rfl
               refine pure_ (i:=14) (N:=some 26) (v:=?_) (a':=?_) #[true,true,true,true,true,true,true,true,true,false,true,true,true,true,true,false,false,false,false,false] rfl rfl (any_of HT_.out (by kernel_rfl)) (fun _ _ _ h=>h) (Or.inl ⟨by rfl,?_⟩) ?_ ?_
               rotate_left
               ·
                intro w'
                go_simp
                with_reducible rfl
               rotate_left
               ·
                simp only [Act.put,la_,l0_,l1_,i64_w,i32_w]
                rfl
               refine take_ (i:=9) (N:=some 21) (v:=?_) (a':=?_) #[true,true,true,true,true,true,true,true,true,true,true,true,true,true,true,false,false,false,false,false] rfl rfl (take_ofW HT_.out HW_.out (by kernel_rfl)) (fun _ _ _ h=>h) (Or.inl ⟨by rfl,?_⟩) hHeld ?_ ?_
               rotate_left
               ·
                rintro w' ⟨s0,s1,s2,s3,s4,s5⟩
                go_simp
                with_reducible rfl
               rotate_left
               ·
                simp only [Act.put,la_,l0_,l1_,i64_w,i32_w]
                rfl
               refine take_ (i:=15) (N:=some 27) (v:=?_) (a':=?_) #[true,true,true,true,true,true,true,true,true,true,true,true,true,true,true,true,false,false,false,false] rfl rfl (take_ofW HT_.out HW_.out (by kernel_rfl)) (fun _ _ _ h=>h) (Or.inl ⟨by rfl,?_⟩) hHeld ?_ ?_
               rotate_left
               ·
                rintro w' ⟨s0,s1,s2,s3,s4,s5⟩
                go_simp
                with_reducible rfl
               rotate_left
               ·
                simp only [Act.put,la_,l0_,l1_,i64_w,i32_w]
                rfl
               refine take_ (i:=16) (N:=some 28) (v:=?_) (a':=?_) #[true,true,true,true,true,true,true,true,true,true,true,true,true,true,true,true,true,false,false,false] rfl rfl (take_ofW HT_.out HW_.out (by kernel_rfl)) (fun _ _ _ h=>h) (Or.inl ⟨by rfl,?_⟩) hHeld ?_ ?_
               rotate_left
               ·
                rintro w' ⟨s0,s1,s2,s3,s4,s5⟩
                go_simp
                with_reducible rfl
               rotate_left
               ·
                simp only [Act.put,la_,l0_,l1_,i64_w,i32_w]
                rfl
               refine one_ (i:=17) (N:=some 29) #[true,true,true,true,true,true,true,true,true,true,true,true,true,true,true,true,true,true,false,false] rfl rfl (one_of HT_.out (by kernel_rfl)) (by decide) (fun K hK=>?_)
               refine goes_ Try.func32 (by kernel_rfl) rfl #[.agg #[.int .i64 ((rd_T30 x3_2 (ji8)).f0),.int .i64 ((rd_T30 x3_2 (ji8)).f1)],.agg #[.int .i64 ((rd_T30 x3_2 (ji11)).f0),.int .i64 ((rd_T30 x3_2 (ji11)).f1)],.agg #[.int .i64 ((rd_T30 l0 x8_1).f0),.int .i64 ((rd_T30 l0 x8_1).f1)]] (by rfl) rfl rfl (by (try simp only [List.map_toArray,List.map_cons,List.map_nil]);first|done|(simp only [hji11,hji8];rfl)|rfl|(simp only [List.length_drop,List.length_take];rfl)) ?_
               with_reducible refine (convex_cross.calls ((rd_T30 x3_2 (ji8)).f0) ((rd_T30 x3_2 (ji8)).f1) ((rd_T30 x3_2 (ji11)).f0) ((rd_T30 x3_2 (ji11)).f1) ((rd_T30 l0 x8_1).f0) ((rd_T30 l0 x8_1).f1) t114 _ A14.out).mono ?_
               rintro e w19 ⟨rfl,hb⟩
               have HS2_:=(hb.cell (bl_ _ _ (hHeld.2.2.1))).trans (hHeld.2.2.1)
               have HS3_:=(hb.cell (bl_ _ _ (hHeld.2.2.2.1))).trans (hHeld.2.2.2.1)
               have HS4_:=(hb.cell (bl_ _ _ (hHeld.2.2.2.2.1))).trans (hHeld.2.2.2.2.1)
               have HS5_:=(hb.cell (bl_ _ _ (hHeld.2.2.2.2.2))).trans (hHeld.2.2.2.2.2)
               refine ⟨_,rfl,?_⟩
               have n0_:=Aside0.mk (Kd.R_below (by (with_reducible repeat (first|apply ra_|apply rn_|apply rd_));exact HO_3.out) hb)
               have n1_:=Aside0.mk (blk_below (g:=gb111) (o:=.cells #[.int .i64 ((rd_T30 l0 x8_1).f0),.int .i64 ((rd_T30 l0 x8_1).f1)] 30 (0,0)) (by (with_reducible repeat (first|refine kn_ ?_ _|refine kd_ ?_|refine ka_ ?_ _));exact BK111.out) hb)
               have n2_:=Aside0.mk (below_step (by repeat (first|(with_reducible first|exact HB.out|apply ba_|apply bn_|apply bd_|refine below_set ?_ GE111.out)|exact HB.out)) hb)
               clear HO_3
               clear BK111
               clear HB
               have HO_3:=n0_
               have BK111:=n1_
               have HB:=n2_
               clear n0_ n1_ n2_
               (try clear hb)
               (try clear hb2)
               (try clear hk)
               (try clear hi)
               refine hK.out _ _ ⟨(blk_cell BK111.out 0).trans rfl,(blk_cell BK111.out 1).trans rfl,HS2_,HS3_,HS4_,HS5_⟩ (fun hHeld=>?_)
               clear hK K
               refine norm_ (a':=?_) ?_ ?_
               rotate_left
               ·
                show Act.put _ (some 29) _ = _
                simp only [Act.put,la_,l0_,l1_,i64_w,i32_w]
                rfl
               refine pure_ (i:=18) (N:=some 30) (v:=?_) (a':=?_) #[true,true,true,true,true,true,true,true,true,true,true,true,true,true,true,true,true,true,true,false] rfl rfl (any_of HT_.out (by kernel_rfl)) (fun _ _ _ h=>h) (Or.inl ⟨by rfl,?_⟩) ?_ ?_
               rotate_left
               ·
                intro w'
                go_simp
                with_reducible rfl
               rotate_left
               ·
                simp only [Act.put,la_,l0_,l1_,i64_w,i32_w]
                rfl
               refine pure_ (i:=19) (N:=some 31) (v:=?_) (a':=?_) #[true,true,true,true,true,true,true,true,true,true,true,true,true,true,true,true,true,true,true,true] rfl rfl (any_of HT_.out (by kernel_rfl)) (fun _ _ _ h=>h) (Or.inl ⟨by rfl,?_⟩) ?_ ?_
               rotate_left
               ·
                intro w'
                go_simp
                with_reducible rfl
               rotate_left
               ·
                simp only [Act.put,la_,l0_,l1_,i64_w,i32_w]
                rfl
               refine done_ (done_of HT_.out (by kernel_rfl)) ?_
               have q20 : ((ji11) : Int) ≤ ((x3_2.length : Int) : Int):=of_decide_eq_true (by first|(with_reducible assumption)|assumption)
               obtain ⟨i020,hi020,_,hsz20,_⟩:=info_parts info30
               have hcut20:=cut_to (P:=Try.prog) 22 30 .i64 Try.underlying22 hi020 (some ad112) x3_2.length co18 (ji11) (of_decide_eq_true (by first|(with_reducible assumption)|assumption)) q20 (Kd.R_reads' HO_3.out).2.1
               have hr20:=Kd.R_take (m:=((ji11) : Int).toNat) HO_3.out (by omega)
               have hy20 : y115.length = ((ji11) : Int).toNat:=(by rw [Ny115.out,List.length_take];omega)
               rw [← Ny115.out] at hr20
               rw [← hy20] at hr20 hcut20
               clear hy20 hi020 hsz20 HO_3
               have HO117:=Aside0.mk hr20
               clear hr20
               replace q20:=eq_true q20
               try go_wp2
               go_roundg k2
               case measure=>have:=HK1.out;have:=HK2.out;omega
               case rel=>exact ⟨(y115),H',⟨by have:=HK1.out;have:=HK2.out;omega⟩,⟨by (with_reducible repeat (first|apply ra_|apply rn_|apply rd_));exact HO117.out⟩,⟨by (with_reducible repeat (first|refine kn_ ?_ _|refine kd_ ?_|refine ka_ ?_ _));exact BK111.out⟩,⟨by repeat (first|(with_reducible first|exact HB.out|apply ba_|apply bn_|apply bd_|refine below_set ?_ GE111.out)|exact HB.out)⟩⟩
              rw [if_neg c16] at H
              exact absurd H (by simp)
             rw [if_neg c15] at H
             have c15b0 : decide (t114 ≤ 0) = false:=decide_eq_false c15
             clear c15
             by_cases c21 : x3_2.length < 8796093022208
             ·
              rw [if_pos c21] at H
              have LMc21:=Aside0.mk c21
              clear c21
              obtain ⟨y118,hy118⟩ : ∃ y_ : List (S30),y_ = (x3_2 ++ [(⟨((rd_T30 l0 x8_1).f0),((rd_T30 l0 x8_1).f1)⟩ : S30)]):=⟨_,rfl⟩
              replace H : (convex_chain.l0 k2 y118 l0 (l0.length : Int) (wrap64 (x8_1 + 1))) = some r:=by first|(rw [hy118];with_reducible exact H)|(have H2_:=(Option.bind_some _ _).symm.trans H;rw [hy118];with_reducible exact H2_)|(have H2_:=(Option.bind_some _ _).symm.trans H;with_reducible exact H2_)|with_reducible exact H|(rw [hy118];exact H)|exact H
              have Ny118:=Aside0.mk hy118
              clear hy118
              have H':=Aside0.mk H
              clear H
              try go_wp2
              have n0_:=Aside0.mk (rd_ HO_3.out)
              have n1_:=Aside0.mk (kd_ BK111.out)
              have n2_:=Aside0.mk (bd_ HB.out)
              clear HO_3
              clear BK111
              clear HB
              have HO_3:=n0_
              have BK111:=n1_
              have HB:=n2_
              clear n0_ n1_ n2_
              obtain ⟨Ao23,co23,eo23⟩:=Kd.R_slice HO_3.out
              (first|subst eo23|(injection eo23 with f1_ f2_ f3_;have f4_:=f1_.symm;have f5_:=f3_.symm;clear f1_ f2_ f3_;subst f4_;subst f5_))
              have p112 : 0 ≤ ((ji8) : Int):=of_decide_eq_true (by first|(with_reducible assumption)|assumption)
              have q112 : (ji8) < (x3_2.length : Int):=of_decide_eq_true (by first|(with_reducible assumption)|assumption)
              obtain ⟨ad112,e112,hx112_0,hx112_1⟩:=at_T30 (Kd.R_reads' HO_3.out).2.2 (ji8) p112 q112
              cases e112
              replace p112:=eq_true p112
              replace q112:=eq_true q112
              have p113 : 0 ≤ ((ji11) : Int):=of_decide_eq_true (by first|(with_reducible assumption)|assumption)
              have q113 : (ji11) < (x3_2.length : Int):=of_decide_eq_true (by first|(with_reducible assumption)|assumption)
              obtain ⟨ad113,e113,hx113_0,hx113_1⟩:=at_T30 (Kd.R_reads' HO_3.out).2.2 (ji11) p113 q113
              obtain rfl : ad112 = ad113:=(by injection e113)
              replace p113:=eq_true p113
              replace q113:=eq_true q113
              refine start_ (n:=20) (S:=fun w'=>w'.cell? ⟨gb111,0,none⟩ = some (.int .i64 ((rd_T30 l0 x8_1).f0))∧w'.cell? ⟨gb111,1,none⟩ = some (.int .i64 ((rd_T30 l0 x8_1).f1))∧w'.cell? (ad112.add (((ji8)).toNat * 2)) = some (.int .i64 ((rd_T30 x3_2 (ji8)).f0))∧w'.cell? ⟨(ad112.add (((ji8)).toNat * 2)).block,(ad112.add (((ji8)).toNat * 2)).off + 1,none⟩ = some (.int .i64 ((rd_T30 x3_2 (ji8)).f1))∧w'.cell? (ad112.add (((ji11)).toNat * 2)) = some (.int .i64 ((rd_T30 x3_2 (ji11)).f0))∧w'.cell? ⟨(ad112.add (((ji11)).toNat * 2)).block,(ad112.add (((ji11)).toNat * 2)).off + 1,none⟩ = some (.int .i64 ((rd_T30 x3_2 (ji11)).f1))) (ds:=[]) #[false,false,false,false,false,false,false,false,false,false,false,false,false,false,false,false,false,false,false,false] (by kernel_rfl) rfl rfl ⟨(blk_cell BK111.out 0).trans rfl,(blk_cell BK111.out 1).trans rfl,hx112_0,hx112_1,hx113_0,hx113_1⟩ (fun hHeld=>?_);refine with_tabW convex_chain.tab5 convex_chain.bits5 (fun HT_ HW_=>?_)
              generalize wr.drew = w22 at HO_3 BK111 HB hx112_0 hx112_1 hx113_0 hx113_1 hHeld ⊢
              refine pure_ (i:=0) (N:=some 12) (v:=?_) (a':=?_) #[true,false,false,false,false,false,false,false,false,false,false,false,false,false,false,false,false,false,false,false] rfl rfl (any_of HT_.out (by kernel_rfl)) (fun _ _ _ h=>h) (Or.inl ⟨by rfl,?_⟩) ?_ ?_
              rotate_left
              ·
               intro w'
               go_simp
               with_reducible rfl
              rotate_left
              ·
               simp only [Act.put,la_,l0_,l1_,i64_w,i32_w]
               rfl
              refine pure_ (i:=1) (N:=some 13) (v:=?_) (a':=?_) #[true,true,false,false,false,false,false,false,false,false,false,false,false,false,false,false,false,false,false,false] rfl rfl (any_of HT_.out (by kernel_rfl)) (fun _ _ _ h=>h) (Or.inl ⟨by rfl,?_⟩) ?_ ?_
              rotate_left
              ·
               intro w'
               go_simp
               with_reducible rfl
              rotate_left
              ·
               simp only [Act.put,la_,l0_,l1_,i64_w,i32_w]
               rfl
              refine pure_ (i:=2) (N:=some 14) (v:=?_) (a':=?_) #[true,true,true,false,false,false,false,false,false,false,false,false,false,false,false,false,false,false,false,false] rfl rfl (any_of HT_.out (by kernel_rfl)) (fun _ _ _ h=>h) (Or.inl ⟨by rfl,?_⟩) ?_ ?_
              rotate_left
              ·
               intro w'
               go_simp
               with_reducible rfl
              rotate_left
              ·
               simp only [Act.put,la_,l0_,l1_,i64_w,i32_w]
               rfl
              refine pure_ (i:=3) (N:=some 15) (v:=?_) (a':=?_) #[true,true,true,true,false,false,false,false,false,false,false,false,false,false,false,false,false,false,false,false] rfl rfl (any_of HT_.out (by kernel_rfl)) (fun _ _ _ h=>h) (Or.inl ⟨by rfl,?_⟩) ?_ ?_
              rotate_left
              ·
               intro w'
               go_simp
               with_reducible rfl
              rotate_left
              ·
               simp only [Act.put,la_,l0_,l1_,i64_w,i32_w]
               rfl
              refine pure_ (i:=4) (N:=some 16) (v:=?_) (a':=?_) #[true,true,true,true,true,false,false,false,false,false,false,false,false,false,false,false,false,false,false,false] rfl rfl (any_of HT_.out (by kernel_rfl)) (fun _ _ _ h=>h) (Or.inl ⟨by rfl,?_⟩) ?_ ?_
              rotate_left
              ·
               intro w'
               go_simp
               with_reducible rfl
              rotate_left
              ·
               simp only [Act.put,la_,l0_,l1_,i64_w,i32_w]
               rfl
              refine pure_ (i:=5) (N:=some 17) (v:=?_) (a':=?_) #[true,true,true,true,true,true,false,false,false,false,false,false,false,false,false,false,false,false,false,false] rfl rfl (any_of HT_.out (by kernel_rfl)) (fun _ _ _ h=>h) (Or.inl ⟨by rfl,?_⟩) ?_ ?_
              rotate_left
              ·
               intro w'
               go_simp
               with_reducible rfl
              rotate_left
              ·
               simp only [Act.put,la_,l0_,l1_,i64_w,i32_w]
               rfl
              refine pure_ (i:=6) (N:=some 18) (v:=?_) (a':=?_) #[true,true,true,true,true,true,true,false,false,false,false,false,false,false,false,false,false,false,false,false] rfl rfl (any_of HT_.out (by kernel_rfl)) (fun _ _ _ h=>h) (Or.inl ⟨by rfl,?_⟩) ?_ ?_
              rotate_left
              ·
               intro w'
               go_simp
               with_reducible rfl
              rotate_left
              ·
               simp only [Act.put,la_,l0_,l1_,i64_w,i32_w]
               rfl
              refine pure_ (i:=7) (N:=some 19) (v:=?_) (a':=?_) #[true,true,true,true,true,true,true,true,false,false,false,false,false,false,false,false,false,false,false,false] rfl rfl (any_of HT_.out (by kernel_rfl)) (fun _ _ _ h=>h) (Or.inl ⟨by rfl,?_⟩) ?_ ?_
              rotate_left
              ·
               intro w'
               go_simp
               with_reducible rfl
              rotate_left
              ·
               simp only [Act.put,la_,l0_,l1_,i64_w,i32_w]
               rfl
              refine pure_ (i:=8) (N:=some 20) (v:=?_) (a':=?_) #[true,true,true,true,true,true,true,true,true,false,false,false,false,false,false,false,false,false,false,false] rfl rfl (any_of HT_.out (by kernel_rfl)) (fun _ _ _ h=>h) (Or.inl ⟨by rfl,?_⟩) ?_ ?_
              rotate_left
              ·
               intro w'
               go_simp
               with_reducible rfl
              rotate_left
              ·
               simp only [Act.put,la_,l0_,l1_,i64_w,i32_w]
               rfl
              refine pure_ (i:=10) (N:=some 22) (v:=?_) (a':=?_) #[true,true,true,true,true,true,true,true,true,false,true,false,false,false,false,false,false,false,false,false] rfl rfl (any_of HT_.out (by kernel_rfl)) (fun _ _ _ h=>h) (Or.inl ⟨by rfl,?_⟩) ?_ ?_
              rotate_left
              ·
               intro w'
               go_simp
               with_reducible rfl
              rotate_left
              ·
               simp only [Act.put,la_,l0_,l1_,i64_w,i32_w]
               rfl
              refine pure_ (i:=11) (N:=some 23) (v:=?_) (a':=?_) #[true,true,true,true,true,true,true,true,true,false,true,true,false,false,false,false,false,false,false,false] rfl rfl (any_of HT_.out (by kernel_rfl)) (fun _ _ _ h=>h) (Or.inl ⟨by rfl,?_⟩) ?_ ?_
              rotate_left
              ·
               intro w'
               go_simp
               with_reducible rfl
              rotate_left
              ·
               simp only [Act.put,la_,l0_,l1_,i64_w,i32_w]
               rfl
              refine pure_ (i:=12) (N:=some 24) (v:=?_) (a':=?_) #[true,true,true,true,true,true,true,true,true,false,true,true,true,false,false,false,false,false,false,false] rfl rfl (any_of HT_.out (by kernel_rfl)) (fun _ _ _ h=>h) (Or.inl ⟨by rfl,?_⟩) ?_ ?_
              rotate_left
              ·
               intro w'
               go_simp
               with_reducible rfl
              rotate_left
              ·
               simp only [Act.put,la_,l0_,l1_,i64_w,i32_w]
               rfl
              refine pure_ (i:=13) (N:=some 25) (v:=?_) (a':=?_) #[true,true,true,true,true,true,true,true,true,false,true,true,true,true,false,false,false,false,false,false] rfl rfl (any_of HT_.out (by kernel_rfl)) (fun _ _ _ h=>h) (Or.inl ⟨by rfl,?_⟩) ?_ ?_
              rotate_left
              ·
               intro w'
               go_simp
               with_reducible rfl
              rotate_left
              ·
               simp only [Act.put,la_,l0_,l1_,i64_w,i32_w]
               rfl
              refine pure_ (i:=14) (N:=some 26) (v:=?_) (a':=?_) #[true,true,true,true,true,true,true,true,true,false,true,true,true,true,true,false,false,false,false,false] rfl rfl (any_of HT_.out (by kernel_rfl)) (fun _ _ _ h=>h) (Or.inl ⟨by rfl,?_⟩) ?_ ?_
              rotate_left
              ·
               intro w'
               go_simp
               with_reducible rfl
              rotate_left
              ·
               simp only [Act.put,la_,l0_,l1_,i64_w,i32_w]
               rfl
              refine take_ (i:=9) (N:=some 21) (v:=?_) (a':=?_) #[true,true,true,true,true,true,true,true,true,true,true,true,true,true,true,false,false,false,false,false] rfl rfl (take_ofW HT_.out HW_.out (by kernel_rfl)) (fun _ _ _ h=>h) (Or.inl ⟨by rfl,?_⟩) hHeld ?_ ?_
              rotate_left
              ·
               rintro w' ⟨s0,s1,s2,s3,s4,s5⟩
               go_simp
               with_reducible rfl
              rotate_left
              ·
               simp only [Act.put,la_,l0_,l1_,i64_w,i32_w]
               rfl
              refine take_ (i:=15) (N:=some 27) (v:=?_) (a':=?_) #[true,true,true,true,true,true,true,true,true,true,true,true,true,true,true,true,false,false,false,false] rfl rfl (take_ofW HT_.out HW_.out (by kernel_rfl)) (fun _ _ _ h=>h) (Or.inl ⟨by rfl,?_⟩) hHeld ?_ ?_
              rotate_left
              ·
               rintro w' ⟨s0,s1,s2,s3,s4,s5⟩
               go_simp
               with_reducible rfl
              rotate_left
              ·
               simp only [Act.put,la_,l0_,l1_,i64_w,i32_w]
               rfl
              refine take_ (i:=16) (N:=some 28) (v:=?_) (a':=?_) #[true,true,true,true,true,true,true,true,true,true,true,true,true,true,true,true,true,false,false,false] rfl rfl (take_ofW HT_.out HW_.out (by kernel_rfl)) (fun _ _ _ h=>h) (Or.inl ⟨by rfl,?_⟩) hHeld ?_ ?_
              rotate_left
              ·
               rintro w' ⟨s0,s1,s2,s3,s4,s5⟩
               go_simp
               with_reducible rfl
              rotate_left
              ·
               simp only [Act.put,la_,l0_,l1_,i64_w,i32_w]
               rfl
              refine one_ (i:=17) (N:=some 29) #[true,true,true,true,true,true,true,true,true,true,true,true,true,true,true,true,true,true,false,false] rfl rfl (one_of HT_.out (by kernel_rfl)) (by decide) (fun K hK=>?_)
              refine goes_ Try.func32 (by kernel_rfl) rfl #[.agg #[.int .i64 ((rd_T30 x3_2 (ji8)).f0),.int .i64 ((rd_T30 x3_2 (ji8)).f1)],.agg #[.int .i64 ((rd_T30 x3_2 (ji11)).f0),.int .i64 ((rd_T30 x3_2 (ji11)).f1)],.agg #[.int .i64 ((rd_T30 l0 x8_1).f0),.int .i64 ((rd_T30 l0 x8_1).f1)]] (by rfl) rfl rfl (by (try simp only [List.map_toArray,List.map_cons,List.map_nil]);first|done|(simp only [hji11,hji8];rfl)|rfl|(simp only [List.length_drop,List.length_take];rfl)) ?_
              with_reducible refine (convex_cross.calls ((rd_T30 x3_2 (ji8)).f0) ((rd_T30 x3_2 (ji8)).f1) ((rd_T30 x3_2 (ji11)).f0) ((rd_T30 x3_2 (ji11)).f1) ((rd_T30 l0 x8_1).f0) ((rd_T30 l0 x8_1).f1) t114 _ A14.out).mono ?_
              rintro e w24 ⟨rfl,hb⟩
              have HS2_:=(hb.cell (bl_ _ _ (hHeld.2.2.1))).trans (hHeld.2.2.1)
              have HS3_:=(hb.cell (bl_ _ _ (hHeld.2.2.2.1))).trans (hHeld.2.2.2.1)
              have HS4_:=(hb.cell (bl_ _ _ (hHeld.2.2.2.2.1))).trans (hHeld.2.2.2.2.1)
              have HS5_:=(hb.cell (bl_ _ _ (hHeld.2.2.2.2.2))).trans (hHeld.2.2.2.2.2)
              refine ⟨_,rfl,?_⟩
              have n0_:=Aside0.mk (Kd.R_below (by (with_reducible repeat (first|apply ra_|apply rn_|apply rd_));exact HO_3.out) hb)
              have n1_:=Aside0.mk (blk_below (g:=gb111) (o:=.cells #[.int .i64 ((rd_T30 l0 x8_1).f0),.int .i64 ((rd_T30 l0 x8_1).f1)] 30 (0,0)) (by (with_reducible repeat (first|refine kn_ ?_ _|refine kd_ ?_|refine ka_ ?_ _));exact BK111.out) hb)
              have n2_:=Aside0.mk (below_step (by repeat (first|(with_reducible first|exact HB.out|apply ba_|apply bn_|apply bd_|refine below_set ?_ GE111.out)|exact HB.out)) hb)
              clear HO_3
              clear BK111
              clear HB
              have HO_3:=n0_
              have BK111:=n1_
              have HB:=n2_
              clear n0_ n1_ n2_
              (try clear hb)
              (try clear hb2)
              (try clear hk)
              (try clear hi)
              refine hK.out _ _ ⟨(blk_cell BK111.out 0).trans rfl,(blk_cell BK111.out 1).trans rfl,HS2_,HS3_,HS4_,HS5_⟩ (fun hHeld=>?_)
              clear hK K
              refine norm_ (a':=?_) ?_ ?_
              rotate_left
              ·
               show Act.put _ (some 29) _ = _
               simp only [Act.put,la_,l0_,l1_,i64_w,i32_w]
               rfl
              refine pure_ (i:=18) (N:=some 30) (v:=?_) (a':=?_) #[true,true,true,true,true,true,true,true,true,true,true,true,true,true,true,true,true,true,true,false] rfl rfl (any_of HT_.out (by kernel_rfl)) (fun _ _ _ h=>h) (Or.inl ⟨by rfl,?_⟩) ?_ ?_
              rotate_left
              ·
               intro w'
               go_simp
               with_reducible rfl
              rotate_left
              ·
               simp only [Act.put,la_,l0_,l1_,i64_w,i32_w]
               rfl
              refine pure_ (i:=19) (N:=some 31) (v:=?_) (a':=?_) #[true,true,true,true,true,true,true,true,true,true,true,true,true,true,true,true,true,true,true,true] rfl rfl (any_of HT_.out (by kernel_rfl)) (fun _ _ _ h=>h) (Or.inl ⟨by rfl,?_⟩) ?_ ?_
              rotate_left
              ·
               intro w'
               go_simp
               with_reducible rfl
              rotate_left
              ·
               simp only [Act.put,la_,l0_,l1_,i64_w,i32_w]
               rfl
              refine done_ (done_of HT_.out (by kernel_rfl)) ?_
              have hcz25_0 : w24.cell? ⟨gb111,0,none⟩ = some (.int .i64 ((rd_T30 l0 x8_1).f0)):=(blk_cell BK111.out 0).trans rfl
              have hcz25_1 : w24.cell? ⟨gb111,1,none⟩ = some (.int .i64 ((rd_T30 l0 x8_1).f1)):=(blk_cell BK111.out 1).trans rfl
              have hfz25_0:=blk_frozen BK111.out 0
              have hfz25_1:=blk_frozen BK111.out 1
              try go_wp2_with (first|((with_reducible refine gate_builtin (b:=.append) (xs:=#[.tmp 37,.tmp 39]) rfl ?_);(try (refine gate_guard (by rfl) ?_;dsimp only));at_builtin;refine Kd.R_append k30 (w0:=w) w.heap.size rfl (.tmp 37) (.tmp 39) 22 30 (.agg #[(.int .i64 0),(.int .i64 0)]) 16 rfl Try.underlying22 info30 rfl (by decide) (by omega) (.slice (some ad112) x3_2.length co23) x3_2 (⟨((rd_T30 l0 x8_1).f0),((rd_T30 l0 x8_1).f1)⟩ : S30) [.int .i64 ((rd_T30 l0 x8_1).f0),.int .i64 ((rd_T30 l0 x8_1).f1)] (fun k_=>k_ ≠ gb111) (fun _=>False) rfl rfl ?aP (fun _ hk=>hk.elim) ?aF ?aO ?aB ?aS ?aL ?_;(case aP=>exact k30_mkM _ _ _ (⟨((rd_T30 l0 x8_1).f0),((rd_T30 l0 x8_1).f1)⟩ : S30));(case aB=>exact (by repeat (first|(with_reducible first|exact HB.out|apply ba_|apply bn_|apply bd_|refine below_set ?_ GE111.out)|exact HB.out)));(case aF=>exact (fun k_ hk=>Kd.freshB (g:=gb111) (o:=.cells #[.int .i64 ((rd_T30 l0 x8_1).f0),.int .i64 ((rd_T30 l0 x8_1).f1)] 30 (0,0)) (by (with_reducible repeat (first|refine kn_ ?_ _|refine kd_ ?_|refine ka_ ?_ _));exact BK111.out) k_ hk));(case aO=>exact (by (with_reducible repeat (first|apply ra_|apply rn_|apply rd_));exact HO_3.out));(case aS=>exact (below_size (by repeat (first|(with_reducible first|exact HB.out|apply ba_|apply bn_|apply bd_|refine below_set ?_ GE111.out)|exact HB.out))));(case aL=>have:=LMc21.out;omega);intro v119 w26 ho hb hg hat;rw [← Ny118.out] at ho;have n0_:=Aside0.mk (blk_grown (g:=gb111) (o:=.cells #[.int .i64 ((rd_T30 l0 x8_1).f0),.int .i64 ((rd_T30 l0 x8_1).f1)] 30 (0,0)) (by (with_reducible repeat (first|refine kn_ ?_ _|refine kd_ ?_|refine ka_ ?_ _));exact BK111.out) hg (Kd.R_away HO_3.out (fun _ hk=>hk)));have n1_:=Aside0.mk (hb);have n2_:=Aside0.mk (ho);clear BK111;clear HB;clear HO_3;have BK111:=n0_;have HB:=n1_;have HO120:=n2_;clear n0_ n1_ n2_;clear ho hb hg hat))
              go_roundg k2
              case measure=>have:=HK1.out;have:=HK2.out;omega
              case rel=>exact ⟨(y118),(wrap64 (x8_1 + 1)),(by first|rfl|(simp;done)|(simp [*];done)),H',⟨by have:=HK1.out;have:=HK2.out;omega⟩,⟨by (with_reducible repeat (first|apply ra_|apply rn_|apply rd_));exact Kd.R_mono HO120.out (fun _ hk=>trivial)⟩,⟨by repeat (first|(with_reducible first|exact HB.out|apply ba_|apply bn_|apply bd_|refine below_set ?_ GE111.out)|exact HB.out)⟩⟩
             rw [if_neg c21] at H
             exact absurd H (by simp)
            rw [if_neg c13] at H
            exact absurd H (by simp)
           rw [if_neg c12] at H
           exact absurd H (by simp)
          rw [if_neg c10] at H
          exact absurd H (by simp)
         rw [if_neg c9] at H
         exact absurd H (by simp)
        rw [if_neg c7] at H
        have c7b0 : decide (1 < (x3_2.length : Int)) = false:=decide_eq_false c7
        have c7b1 : decide (1 < x3_2.length) = false:=decide_eq_false (by omega)
        clear c7
        by_cases c27 : x3_2.length < 8796093022208
        ·
         rw [if_pos c27] at H
         have LMc27:=Aside0.mk c27
         clear c27
         obtain ⟨y121,hy121⟩ : ∃ y_ : List (S30),y_ = (x3_2 ++ [(⟨((rd_T30 l0 x8_1).f0),((rd_T30 l0 x8_1).f1)⟩ : S30)]):=⟨_,rfl⟩
         replace H : (convex_chain.l0 k2 y121 l0 (l0.length : Int) (wrap64 (x8_1 + 1))) = some r:=by first|(rw [hy121];with_reducible exact H)|(have H2_:=(Option.bind_some _ _).symm.trans H;rw [hy121];with_reducible exact H2_)|(have H2_:=(Option.bind_some _ _).symm.trans H;with_reducible exact H2_)|with_reducible exact H|(rw [hy121];exact H)|exact H
         have Ny121:=Aside0.mk hy121
         clear hy121
         have H':=Aside0.mk H
         clear H
         try go_wp2
         have n0_:=Aside0.mk (rd_ HO_3.out)
         have n1_:=Aside0.mk (kd_ BK111.out)
         have n2_:=Aside0.mk (bd_ HB.out)
         clear HO_3
         clear BK111
         clear HB
         have HO_3:=n0_
         have BK111:=n1_
         have HB:=n2_
         clear n0_ n1_ n2_
         obtain ⟨Ao29,co29,eo29⟩:=Kd.R_slice HO_3.out
         (first|subst eo29|(injection eo29 with f1_ f2_ f3_;have f4_:=f1_.symm;have f5_:=f3_.symm;clear f1_ f2_ f3_;subst f4_;subst f5_))
         refine start_ (n:=20) (S:=fun w'=>True) (ds:=[]) #[false,false,false,false,false,false,false,false,false,false,false,false,false,false,false,false,false,false,false,false] (by kernel_rfl) rfl rfl trivial (fun hHeld=>?_);refine with_tabW convex_chain.tab5 convex_chain.bits5 (fun HT_ HW_=>?_)
         generalize wr.drew = w28 at HO_3 BK111 HB hHeld ⊢
         refine pure_ (i:=0) (N:=some 12) (v:=?_) (a':=?_) #[true,false,false,false,false,false,false,false,false,false,false,false,false,false,false,false,false,false,false,false] rfl rfl (any_of HT_.out (by kernel_rfl)) (fun _ _ _ h=>h) (Or.inl ⟨by rfl,?_⟩) ?_ ?_
         rotate_left
         ·
          intro w'
          go_simp
          with_reducible rfl
         rotate_left
         ·
          simp only [Act.put,la_,l0_,l1_,i64_w,i32_w]
          rfl
         refine pure_ (i:=1) (N:=some 13) (v:=?_) (a':=?_) #[true,true,false,false,false,false,false,false,false,false,false,false,false,false,false,false,false,false,false,false] rfl rfl (any_of HT_.out (by kernel_rfl)) (fun _ _ _ h=>h) (Or.inl ⟨by rfl,?_⟩) ?_ ?_
         rotate_left
         ·
          intro w'
          go_simp
          with_reducible rfl
         rotate_left
         ·
          simp only [Act.put,la_,l0_,l1_,i64_w,i32_w]
          rfl
         refine pure_ (i:=2) (N:=some 14) (v:=?_) (a':=?_) #[true,true,true,false,false,false,false,false,false,false,false,false,false,false,false,false,false,false,false,false] rfl rfl (any_of HT_.out (by kernel_rfl)) (fun _ _ _ h=>h) (Or.inl ⟨by rfl,?_⟩) ?_ ?_
         rotate_left
         ·
          intro w'
          go_simp
          with_reducible rfl
         rotate_left
         ·
          simp only [Act.put,la_,l0_,l1_,i64_w,i32_w]
          rfl
         refine pure_ (i:=3) (N:=some 15) (v:=?_) (a':=?_) #[true,true,true,true,false,false,false,false,false,false,false,false,false,false,false,false,false,false,false,false] rfl rfl (any_of HT_.out (by kernel_rfl)) (fun _ _ _ h=>h) (Or.inl ⟨by rfl,?_⟩) ?_ ?_
         rotate_left
         ·
          intro w'
          go_simp
          with_reducible rfl
         rotate_left
         ·
          simp only [Act.put,la_,l0_,l1_,i64_w,i32_w]
          rfl
         refine pure_ (i:=4) (N:=some 16) (v:=undef) (a':=?_) #[true,true,true,true,true,false,false,false,false,false,false,false,false,false,false,false,false,false,false,false] rfl rfl (any_of HT_.out (by kernel_rfl)) (fun _ _ _ h=>h) (Or.inr ⟨by rfl,rfl⟩) ?_ ?_
         rotate_left
         ·
          simp only [Act.put,la_,l0_,l1_,i64_w,i32_w]
          rfl
         refine pure_ (i:=5) (N:=some 17) (v:=undef) (a':=?_) #[true,true,true,true,true,true,false,false,false,false,false,false,false,false,false,false,false,false,false,false] rfl rfl (any_of HT_.out (by kernel_rfl)) (fun _ _ _ h=>h) (Or.inr ⟨by rfl,rfl⟩) ?_ ?_
         rotate_left
         ·
          simp only [Act.put,la_,l0_,l1_,i64_w,i32_w]
          rfl
         refine pure_ (i:=6) (N:=some 18) (v:=undef) (a':=?_) #[true,true,true,true,true,true,true,false,false,false,false,false,false,false,false,false,false,false,false,false] rfl rfl (any_of HT_.out (by kernel_rfl)) (fun _ _ _ h=>h) (Or.inr ⟨by rfl,rfl⟩) ?_ ?_
         rotate_left
         ·
          simp only [Act.put,la_,l0_,l1_,i64_w,i32_w]
          rfl
         refine pure_ (i:=7) (N:=some 19) (v:=undef) (a':=?_) #[true,true,true,true,true,true,true,true,false,false,false,false,false,false,false,false,false,false,false,false] rfl rfl (any_of HT_.out (by kernel_rfl)) (fun _ _ _ h=>h) (Or.inr ⟨by rfl,rfl⟩) ?_ ?_
         rotate_left
         ·
          simp only [Act.put,la_,l0_,l1_,i64_w,i32_w]
          rfl
         refine pure_ (i:=8) (N:=some 20) (v:=undef) (a':=?_) #[true,true,true,true,true,true,true,true,true,false,false,false,false,false,false,false,false,false,false,false] rfl rfl (any_of HT_.out (by kernel_rfl)) (fun _ _ _ h=>h) (Or.inr ⟨by rfl,rfl⟩) ?_ ?_
         rotate_left
         ·
          simp only [Act.put,la_,l0_,l1_,i64_w,i32_w]
          rfl
         refine pure_ (i:=9) (N:=some 21) (v:=undef) (a':=?_) #[true,true,true,true,true,true,true,true,true,true,false,false,false,false,false,false,false,false,false,false] rfl rfl (any_of HT_.out (by kernel_rfl)) (fun _ _ _ h=>h) (Or.inr ⟨by rfl,rfl⟩) ?_ ?_
         rotate_left
         ·
          simp only [Act.put,la_,l0_,l1_,i64_w,i32_w]
          rfl
         refine pure_ (i:=10) (N:=some 22) (v:=undef) (a':=?_) #[true,true,true,true,true,true,true,true,true,true,true,false,false,false,false,false,false,false,false,false] rfl rfl (any_of HT_.out (by kernel_rfl)) (fun _ _ _ h=>h) (Or.inr ⟨by rfl,rfl⟩) ?_ ?_
         rotate_left
         ·
          simp only [Act.put,la_,l0_,l1_,i64_w,i32_w]
          rfl
         refine pure_ (i:=11) (N:=some 23) (v:=undef) (a':=?_) #[true,true,true,true,true,true,true,true,true,true,true,true,false,false,false,false,false,false,false,false] rfl rfl (any_of HT_.out (by kernel_rfl)) (fun _ _ _ h=>h) (Or.inr ⟨by rfl,rfl⟩) ?_ ?_
         rotate_left
         ·
          simp only [Act.put,la_,l0_,l1_,i64_w,i32_w]
          rfl
         refine pure_ (i:=12) (N:=some 24) (v:=undef) (a':=?_) #[true,true,true,true,true,true,true,true,true,true,true,true,true,false,false,false,false,false,false,false] rfl rfl (any_of HT_.out (by kernel_rfl)) (fun _ _ _ h=>h) (Or.inr ⟨by rfl,rfl⟩) ?_ ?_
         rotate_left
         ·
          simp only [Act.put,la_,l0_,l1_,i64_w,i32_w]
          rfl
         refine pure_ (i:=13) (N:=some 25) (v:=undef) (a':=?_) #[true,true,true,true,true,true,true,true,true,true,true,true,true,true,false,false,false,false,false,false] rfl rfl (any_of HT_.out (by kernel_rfl)) (fun _ _ _ h=>h) (Or.inr ⟨by rfl,rfl⟩) ?_ ?_
         rotate_left
         ·
          simp only [Act.put,la_,l0_,l1_,i64_w,i32_w]
          rfl
         refine pure_ (i:=14) (N:=some 26) (v:=undef) (a':=?_) #[true,true,true,true,true,true,true,true,true,true,true,true,true,true,true,false,false,false,false,false] rfl rfl (any_of HT_.out (by kernel_rfl)) (fun _ _ _ h=>h) (Or.inr ⟨by rfl,rfl⟩) ?_ ?_
         rotate_left
         ·
          simp only [Act.put,la_,l0_,l1_,i64_w,i32_w]
          rfl
         refine pure_ (i:=15) (N:=some 27) (v:=undef) (a':=?_) #[true,true,true,true,true,true,true,true,true,true,true,true,true,true,true,true,false,false,false,false] rfl rfl (any_of HT_.out (by kernel_rfl)) (fun _ _ _ h=>h) (Or.inr ⟨by rfl,rfl⟩) ?_ ?_
         rotate_left
         ·
          simp only [Act.put,la_,l0_,l1_,i64_w,i32_w]
          rfl
         refine pure_ (i:=16) (N:=some 28) (v:=undef) (a':=?_) #[true,true,true,true,true,true,true,true,true,true,true,true,true,true,true,true,true,false,false,false] rfl rfl (any_of HT_.out (by kernel_rfl)) (fun _ _ _ h=>h) (Or.inr ⟨by rfl,rfl⟩) ?_ ?_
         rotate_left
         ·
          simp only [Act.put,la_,l0_,l1_,i64_w,i32_w]
          rfl
         refine pure_ (i:=17) (N:=some 29) (v:=undef) (a':=?_) #[true,true,true,true,true,true,true,true,true,true,true,true,true,true,true,true,true,true,false,false] rfl rfl (any_of HT_.out (by kernel_rfl)) (fun _ _ _ h=>h) (Or.inr ⟨by rfl,rfl⟩) ?_ ?_
         rotate_left
         ·
          simp only [Act.put,la_,l0_,l1_,i64_w,i32_w]
          rfl
         refine pure_ (i:=18) (N:=some 30) (v:=undef) (a':=?_) #[true,true,true,true,true,true,true,true,true,true,true,true,true,true,true,true,true,true,true,false] rfl rfl (any_of HT_.out (by kernel_rfl)) (fun _ _ _ h=>h) (Or.inr ⟨by rfl,rfl⟩) ?_ ?_
         rotate_left
         ·
          simp only [Act.put,la_,l0_,l1_,i64_w,i32_w]
          rfl
         refine pure_ (i:=19) (N:=some 31) (v:=?_) (a':=?_) #[true,true,true,true,true,true,true,true,true,true,true,true,true,true,true,true,true,true,true,true] rfl rfl (any_of HT_.out (by kernel_rfl)) (fun _ _ _ h=>h) (Or.inl ⟨by rfl,?_⟩) ?_ ?_
         rotate_left
         ·
          intro w'
          go_simp
          with_reducible rfl
         rotate_left
         ·
          simp only [Act.put,la_,l0_,l1_,i64_w,i32_w]
          rfl
         refine done_ (done_of HT_.out (by kernel_rfl)) ?_
         have hcz30_0 : w28.cell? ⟨gb111,0,none⟩ = some (.int .i64 ((rd_T30 l0 x8_1).f0)):=(blk_cell BK111.out 0).trans rfl
         have hcz30_1 : w28.cell? ⟨gb111,1,none⟩ = some (.int .i64 ((rd_T30 l0 x8_1).f1)):=(blk_cell BK111.out 1).trans rfl
         have hfz30_0:=blk_frozen BK111.out 0
         have hfz30_1:=blk_frozen BK111.out 1
         try go_wp2_with (first|((with_reducible refine gate_builtin (b:=.append) (xs:=#[.tmp 37,.tmp 39]) rfl ?_);(try (refine gate_guard (by rfl) ?_;dsimp only));at_builtin;refine Kd.R_append k30 (w0:=w) w.heap.size rfl (.tmp 37) (.tmp 39) 22 30 (.agg #[(.int .i64 0),(.int .i64 0)]) 16 rfl Try.underlying22 info30 rfl (by decide) (by omega) (.slice Ao29 x3_2.length co29) x3_2 (⟨((rd_T30 l0 x8_1).f0),((rd_T30 l0 x8_1).f1)⟩ : S30) [.int .i64 ((rd_T30 l0 x8_1).f0),.int .i64 ((rd_T30 l0 x8_1).f1)] (fun k_=>k_ ≠ gb111) (fun _=>False) rfl rfl ?aP (fun _ hk=>hk.elim) ?aF ?aO ?aB ?aS ?aL ?_;(case aP=>exact k30_mkM _ _ _ (⟨((rd_T30 l0 x8_1).f0),((rd_T30 l0 x8_1).f1)⟩ : S30));(case aB=>exact (by repeat (first|(with_reducible first|exact HB.out|apply ba_|apply bn_|apply bd_|refine below_set ?_ GE111.out)|exact HB.out)));(case aF=>exact (fun k_ hk=>Kd.freshB (g:=gb111) (o:=.cells #[.int .i64 ((rd_T30 l0 x8_1).f0),.int .i64 ((rd_T30 l0 x8_1).f1)] 30 (0,0)) (by (with_reducible repeat (first|refine kn_ ?_ _|refine kd_ ?_|refine ka_ ?_ _));exact BK111.out) k_ hk));(case aO=>exact (by (with_reducible repeat (first|apply ra_|apply rn_|apply rd_));exact HO_3.out));(case aS=>exact (below_size (by repeat (first|(with_reducible first|exact HB.out|apply ba_|apply bn_|apply bd_|refine below_set ?_ GE111.out)|exact HB.out))));(case aL=>have:=LMc27.out;omega);intro v122 w31 ho hb hg hat;rw [← Ny121.out] at ho;have n0_:=Aside0.mk (blk_grown (g:=gb111) (o:=.cells #[.int .i64 ((rd_T30 l0 x8_1).f0),.int .i64 ((rd_T30 l0 x8_1).f1)] 30 (0,0)) (by (with_reducible repeat (first|refine kn_ ?_ _|refine kd_ ?_|refine ka_ ?_ _));exact BK111.out) hg (Kd.R_away HO_3.out (fun _ hk=>hk)));have n1_:=Aside0.mk (hb);have n2_:=Aside0.mk (ho);clear BK111;clear HB;clear HO_3;have BK111:=n0_;have HB:=n1_;have HO123:=n2_;clear n0_ n1_ n2_;clear ho hb hg hat))
         go_roundg k2
         case measure=>have:=HK1.out;have:=HK2.out;omega
         case rel=>exact ⟨(y121),(wrap64 (x8_1 + 1)),(by first|rfl|(simp;done)|(simp [*];done)),H',⟨by have:=HK1.out;have:=HK2.out;omega⟩,⟨by (with_reducible repeat (first|apply ra_|apply rn_|apply rd_));exact Kd.R_mono HO123.out (fun _ hk=>trivial)⟩,⟨by repeat (first|(with_reducible first|exact HB.out|apply ba_|apply bn_|apply bd_|refine below_set ?_ GE111.out)|exact HB.out)⟩⟩
        rw [if_neg c27] at H
        exact absurd H (by simp)
     rw [if_neg c4] at H
     exact absurd H (by simp)
    rw [if_neg c3] at H
    exact absurd H (by simp)
   rw [if_neg c2] at H
   have c2b0 : decide (x8_1 < (l0.length : Int)) = false:=decide_eq_false c2
   clear c2
   obtain ⟨ji32,hji32⟩ : ∃ j_ : Int,(wrap64 ((x3_1.length : Int) - 1)) = j_:=⟨_,rfl⟩
   replace H : (if 0 ≤ (ji32) then (if (ji32) ≤ (x3_1.length : Int) then (some (x3_1.take ((ji32) : Int).toNat)) else (none)) else (none)) = some r:=by first|(rw [hji32] at H;exact H)|(simp only [hji32] at H ⊢;exact H)
   have hji32w : (IntKind.i64.wrap ((x3_1.length : Int) - 1)) = ji32:=(i64_w _).trans hji32
   by_cases c33 : 0 ≤ (ji32)
   ·
    rw [if_pos c33] at H
    have c33b0:=eq_true c33
    have c33b1 : decide (0 ≤ (ji32)) = true:=decide_eq_true c33
    clear c33
    by_cases c34 : (ji32) ≤ (x3_1.length : Int)
    ·
     rw [if_pos c34] at H
     have c34b0:=eq_true c34
     have c34b1 : decide ((ji32) ≤ (x3_1.length : Int)) = true:=decide_eq_true c34
     clear c34
     obtain ⟨y107,hy107⟩ : ∃ y_ : List (S30),y_ = (x3_1.take ((ji32) : Int).toNat):=⟨_,rfl⟩
     replace H : (some y107) = some r:=by first|(rw [hy107];with_reducible exact H)|(have H2_:=(Option.bind_some _ _).symm.trans H;rw [hy107];with_reducible exact H2_)|(have H2_:=(Option.bind_some _ _).symm.trans H;with_reducible exact H2_)|with_reducible exact H|(rw [hy107];exact H)|exact H
     have Ny107:=Aside0.mk hy107
     clear hy107
     obtain rfl:=Option.some.inj H
     obtain ⟨Ao35,co35,eo35⟩:=Kd.R_slice HO_3.out
     subst eo35
     have q36 : ((ji32) : Int) ≤ ((x3_1.length : Int) : Int):=of_decide_eq_true (by first|(with_reducible assumption)|assumption)
     obtain ⟨i036,hi036,_,hsz36,_⟩:=info_parts info30
     have hcut36:=cut_to (P:=Try.prog) 22 30 .i64 Try.underlying22 hi036 Ao35 x3_1.length co35 (ji32) (of_decide_eq_true (by first|(with_reducible assumption)|assumption)) q36 (Kd.R_reads' HO_3.out).2.1
     have hr36:=Kd.R_take (m:=((ji32) : Int).toNat) HO_3.out (by omega)
     have hy36 : y107.length = ((ji32) : Int).toNat:=(by rw [Ny107.out,List.length_take];omega)
     rw [← Ny107.out] at hr36
     rw [← hy36] at hr36 hcut36
     clear hy36 hi036 hsz36 HO_3
     have HO109:=Aside0.mk hr36
     clear hr36
     replace q36:=eq_true q36
     go_wp2
     go_ret
     exact ⟨_,by first|rfl|(simp [errW_none,errW_some] <;> rfl)|(simp only [← hji32];first|rfl|(simp [errW_none,errW_some] <;> rfl))|(simp [*,errW_none,errW_some] <;> rfl),by (with_reducible repeat (first|apply ra_|apply rn_|apply rd_));exact HO109.out,by repeat (first|(with_reducible first|exact HB.out|apply ba_|apply bn_|apply bd_)|exact HB.out)⟩
    rw [if_neg c34] at H
    exact absurd H (by simp)
   rw [if_neg c33] at H
   exact absurd H (by simp)

end Go.Proofs.Ytlnigbhimdphoaa.C
