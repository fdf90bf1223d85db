-- PRINTED by print.py (a twelfth state) out of the translation. Not trusted: Lean checks it.
import Derived.Test.YtlnigbhimdphoaaCx0
import Derived.Test.YtlnigbhimdphoaaCx2
import Derived.Test.YtlnigbhimdphoaaCx4
namespace Go.Proofs.Ytlnigbhimdphoaa.C
open Go.RowKit Go.Proofs.YtlnigbhimdphoaaW.PrintWords Go.Proofs.YtlnigbhimdphoaaW.PrintLast Go.Proofs.YtlnigbhimdphoaaW.PrintMore
attribute [local go_sem] max2_int min2_int max_two min_two max_three min_three max_four min_four Go.Proofs.Ytlnigbhimdphoaa.Aid.isSome_setCell   -- for this text's walks alone
set_option linter.unusedVariables false
set_option linter.unusedSimpArgs false

/-! ### convex_Inside: function 14 -/
def convex_Inside.l0 : Nat → List (S30) → List (S30) → Int → Int → Int → Int → Option (Bool × Int)
 | 0,_,_,_,_,_,_=>none
 | k + 1,x6,x21,x22,x23,x151000,x151001=>if x23 < x22 then (if 0 ≤ x23 then (if x23 < (x21.length : Int) then (if (x6.length : Int) = 0 then (none) else (if 0 ≤ (Int.tmod (wrap64 (x23 + 1)) (x6.length : Int)) then (if (Int.tmod (wrap64 (x23 + 1)) (x6.length : Int)) < (x6.length : Int) then ((convex_cross.f ((rd_T30 x21 x23).f0) ((rd_T30 x21 x23).f1) ((rd_T30 x6 (Int.tmod (wrap64 (x23 + 1)) (x6.length : Int))).f0) ((rd_T30 x6 (Int.tmod (wrap64 (x23 + 1)) (x6.length : Int))).f1) x151000 x151001).bind fun t159=>(if t159 ≤ 0 then (some (false,0)) else (convex_Inside.l0 k x6 x21 x22 (wrap64 (x23 + 1)) x151000 x151001))) else (none)) else (none))) else (none)) else (none)) else (some (true,0))
def convex_Inside.f (k : Nat) (l0 : List (S30)) (a1_0 : Int) (a1_1 : Int) : Option (Bool × Int):=(convex_Hull.f k l0).bind fun bt151=>(if bt151.2 = 0 then ((convex_near.f a1_0 a1_1).bind fun t155=>(if t155 = true then (convex_Inside.l0 k bt151.1 bt151.1 (bt151.1.length : Int) 0 a1_0 a1_1) else (some (false,0)))) else (some (false,bt151.2)))
theorem convex_Inside.mono_l : ∀ k,(∀ y0 y1 y2 y3 y4 y5,LeO (convex_Inside.l0 k y0 y1 y2 y3 y4 y5) (convex_Inside.l0 (k + 1) y0 y1 y2 y3 y4 y5))
 | 0=>fun _ _ _ _ _ _ r h=>by simp [convex_Inside.l0] at h
 | k + 1=>by
  have ih0:=convex_Inside.mono_l k
  intro y0 y1 y2 y3 y4 y5
  unfold convex_Inside.l0
  repeat' first
  | (with_reducible exact ih0 _ _ _ _ _ _)
  | (with_reducible exact convex_Hull.mono _ _)
  | (with_reducible exact LeO.refl _)
  | (with_reducible exact LeO.none _)
  | (with_reducible refine LeO.ite ?_ ?_)
  | (with_reducible refine LeO.bind ?_ (fun _=>?_))
  | exact ih0 _ _ _ _ _ _
  | exact convex_Hull.mono _ _
  | exact LeO.none _
  | refine LeO.ite ?_ ?_
  | refine LeO.bind ?_ (fun _=>?_)
theorem convex_Inside.mono : ∀ a0 a1 a2 k,LeO (convex_Inside.f k a0 a1 a2) (convex_Inside.f (k + 1) a0 a1 a2):=by
 intro a0 a1 a2 k
 have ih0:=convex_Inside.mono_l k
 unfold convex_Inside.f
 repeat' first
   | (with_reducible exact ih0 _ _ _ _ _ _)
   | (with_reducible exact convex_Hull.mono _ _)
   | (with_reducible exact LeO.refl _)
   | (with_reducible exact LeO.none _)
   | (with_reducible refine LeO.ite ?_ ?_)
   | (with_reducible refine LeO.bind ?_ (fun _=>?_))
   | exact ih0 _ _ _ _ _ _
   | exact convex_Hull.mono _ _
   | exact LeO.none _
   | refine LeO.ite ?_ ?_
   | refine LeO.bind ?_ (fun _=>?_)
def convex_Inside.T9 : Bool × List (List Nat × List Nat):=(true,[([],[]),([],[]),([],[]),([2],[2]),([],[]),([4],[4]),([3,5],[3,5]),([1,6],[1,6]),([7],[7]),([],[]),([0,8,9],[0,8,9]),([10],[10])])
def convex_Inside.B9 : List Nat:=[0,0,0,4,0,16,60,126,254,0,1023,2047]
theorem convex_Inside.tab9 : rtab .any (opsOf Try.f14 9) = convex_Inside.T9:=by kernel_rfl
theorem convex_Inside.bits9 : waitsOk convex_Inside.T9.2 convex_Inside.B9 = true:=by kernel_rfl
set_option maxHeartbeats 8000000 in
set_option maxRecDepth 100000 in
theorem convex_Inside.calls (k : Nat) (A0 : Option Addr) (c0 : Nat) (l0 : List (S30)) (a1_0 : Int) (a1_1 : Int) (r1 : Bool) (r2 : Int) (w : World) (hr0 : Kd.C k30 w A0 l0.length l0) (hc0 : l0.length ≤ c0) (h : convex_Inside.f k l0 a1_0 a1_1 = some (r1,r2)) :
  Calls Try.prog 14 #[.slice A0 l0.length c0,.agg #[.int .i64 a1_0,.int .i64 a1_1]] w fun e w'=>e = .returned (.tuple #[.bool r1,.int .i64 r2])∧Below w.heap.size w w':=by
 have hu30:=Try.underlying30
 have HR0:=Aside0.mk hr0
 have HC0:=Aside0.mk hc0
 clear hr0 hc0
 have HB:=Aside0.mk (Below.refl w.heap.size w)
 have H : ((convex_Hull.f k l0).bind fun bt151=>(if bt151.2 = 0 then ((convex_near.f a1_0 a1_1).bind fun t155=>(if t155 = true then (convex_Inside.l0 k bt151.1 bt151.1 (bt151.1.length : Int) 0 a1_0 a1_1) else (some (false,0)))) else (some (false,bt151.2)))) = some (r1,r2):=h
 clear h
 replace H:=Option.bind_eq_some_iff.mp H
 obtain ⟨⟨t151,t152⟩,A30,H⟩:=H
 replace H : (if t152 = 0 then ((convex_near.f a1_0 a1_1).bind fun t155=>(if t155 = true then (convex_Inside.l0 k t151 t151 (t151.length : Int) 0 a1_0 a1_1) else (some (false,0)))) else (some (false,t152))) = some (r1,r2):=H
 have A3:=Aside0.mk A30
 clear A30
 by_cases c4 : t152 = 0
 ·
  rw [if_pos c4] at H
  have c4b0 : (t152 == 0) = true:=beq_iff_eq.mpr c4
  have c4b1 : (t152 != 0) = false:=bne_eq_false_iff_eq.mpr c4
  clear c4
  replace H:=Option.bind_eq_some_iff.mp H
  obtain ⟨t155,A50,H⟩:=H
  replace H : (if t155 = true then (convex_Inside.l0 k t151 t151 (t151.length : Int) 0 a1_0 a1_1) else (some (false,0))) = some (r1,r2):=H
  have A5:=Aside0.mk A50
  clear A50
  by_cases c6 : t155 = true
  ·
   subst c6
   have H1 : (convex_Inside.l0 k t151 t151 (t151.length : Int) 0 a1_0 a1_1) = some (r1,r2):=by rw [if_pos rfl] at H;exact H
   clear H
   have H:=H1
   clear H1
   have H':=Aside0.mk H
   clear H
   go_enter Try.func14,Try.ntmps14
   go_wp2_with (first|((with_reducible refine gate_dst (N:=3) rfl ?_);refine box_event ?hg (N:=3) ?hd (cs:=#[.int .i64 a1_0,.int .i64 a1_1]) (t:=30) ?hr ?_;(case hd=>rfl);(case hg=>rfl);(case hr=>first|(go_simp;done)|(go_simp;rfl));intro gb150 hg w7 hbox hb;have n0_:=Aside0.mk (below_step (by repeat (first|(with_reducible first|exact HB.out|apply ba_|apply bn_|apply bd_)|exact HB.out)) hb);have n1_:=Aside0.mk (hbox);have n2_:=Aside0.mk ((by rw [hg];exact (below_size (by repeat (first|(with_reducible first|exact HB.out|apply ba_|apply bn_|apply bd_)|exact HB.out))) : w.heap.size ≤ gb150));have n3_:=Aside0.mk ((by rw [hg];exact (below_size (by repeat (first|(with_reducible first|exact HB.out|apply ba_|apply bn_|apply bd_)|exact HB.out))) : w.heap.size ≤ gb150));clear HB;have HB:=n0_;have BK150:=n1_;have GW150:=n2_;have GE150:=n3_;clear n0_ n1_ n2_ n3_;clear hb hbox hg)|((with_reducible refine gate_callee (f:=11) rfl ?_);refine goesL_ (some 12) rfl rfl Try.func11 (by kernel_rfl) rfl #[.slice A0 l0.length c0] rfl (by (try simp only [List.map_toArray,List.map_cons,List.map_nil]);first|done|rfl|(simp only [List.length_drop,List.length_take];rfl)) ?_;(with_reducible refine (convex_Hull.calls k _ _ l0 t151 t152 _ ?side1 ?side2 A3.out).mono ?_);(case side1=>repeat (first|exact (Kd.C_below HR0.out HB.out)|(with_reducible refine Kd.C_alloc ?_ _)|(with_reducible refine Kd.C_drewN ?_ _)|(with_reducible refine Kd.C_drew ?_)));(case side2=>exact HC0.out);rintro e w8 ⟨v153,rfl,ho0,hb⟩;refine ⟨_,rfl,?_⟩;have n0_:=Aside0.mk (Kd.R_lower (Kd.R_newB ho0 (g:=gb150) (o:=.cells #[.int .i64 a1_0,.int .i64 a1_1] 30 (0,0)) (by (with_reducible repeat (first|refine kn_ ?_ _|refine kd_ ?_|refine ka_ ?_ _));exact BK150.out)) (below_size (by repeat (first|(with_reducible first|exact HB.out|apply ba_|apply bn_|apply bd_|refine below_set ?_ GE150.out)|exact HB.out))));have n1_:=Aside0.mk (blk_below (g:=gb150) (o:=.cells #[.int .i64 a1_0,.int .i64 a1_1] 30 (0,0)) (by (with_reducible repeat (first|refine kn_ ?_ _|refine kd_ ?_|refine ka_ ?_ _));exact BK150.out) hb);have n2_:=Aside0.mk (below_step (by repeat (first|(with_reducible first|exact HB.out|apply ba_|apply bn_|apply bd_|refine below_set ?_ GE150.out)|exact HB.out)) hb);clear BK150;clear HB;have HO154:=n0_;have BK150:=n1_;have HB:=n2_;clear n0_ n1_ n2_;(try clear hb);(try clear hb2);(try clear hk);(try clear hi);(try clear ho0);have hcz9_0 : w8.cell? ⟨gb150,0,none⟩ = some (.int .i64 a1_0):=(blk_cell BK150.out 0).trans rfl;have hcz9_1 : w8.cell? ⟨gb150,1,none⟩ = some (.int .i64 a1_1):=(blk_cell BK150.out 1).trans rfl;have hfz9_0:=blk_frozen BK150.out 0;have hfz9_1:=blk_frozen BK150.out 1)|((with_reducible refine gate_callee (f:=29) rfl ?_);refine goesL_ (some 19) rfl rfl Try.func29 (by kernel_rfl) rfl #[.agg #[.int .i64 a1_0,.int .i64 a1_1]] rfl (by (try simp only [List.map_toArray,List.map_cons,List.map_nil]);first|done|rfl|(simp only [List.length_drop,List.length_take];rfl)) ?_;(with_reducible refine (convex_near.calls a1_0 a1_1 true _ A5.out).mono ?_);rintro e w10 ⟨rfl,hb⟩;refine ⟨_,rfl,?_⟩;have n0_:=Aside0.mk (Kd.R_below (by (with_reducible repeat (first|apply ra_|apply rn_|apply rd_));exact HO154.out) hb);have n1_:=Aside0.mk (blk_below (g:=gb150) (o:=.cells #[.int .i64 a1_0,.int .i64 a1_1] 30 (0,0)) (by (with_reducible repeat (first|refine kn_ ?_ _|refine kd_ ?_|refine ka_ ?_ _));exact BK150.out) hb);have n2_:=Aside0.mk (below_step (by repeat (first|(with_reducible first|exact HB.out|apply ba_|apply bn_|apply bd_|refine below_set ?_ GE150.out)|exact HB.out)) hb);clear HO154;clear BK150;clear HB;have HO154:=n0_;have BK150:=n1_;have HB:=n2_;clear n0_ n1_ n2_;(try clear hb);(try clear hb2);(try clear hk);(try clear hi);obtain ⟨Ao11,co11,eo11⟩:=Kd.R_slice HO154.out;subst eo11))
   go_loopg [23] k (fun kq v23 w'=>∃ (x23_1 : Int),v23 = .int .i64 x23_1∧Aside0 (convex_Inside.l0 kq t151 t151 (t151.length : Int) x23_1 a1_0 a1_1 = some (r1,r2))∧Aside0 (kq ≤ k)∧Aside0 (Kd.R k30 30 w' w.heap.size (fun k_=>k_ ≠ gb150) (.slice Ao11 t151.length co11) t151)∧Aside0 (Kd.R k30 30 w' w.heap.size (fun k_=>k_ ≠ gb150) (.slice Ao11 t151.length co11) t151)∧Aside0 (w'.heap[gb150]? = some (.cells #[.int .i64 a1_0,.int .i64 a1_1] 30 (0,0)))∧Aside0 (Below w.heap.size w w'))
   case atStart=>exact ⟨(0),(by first|rfl|(simp;done)|(simp [*];done)),H',⟨Nat.le_refl _⟩,⟨by (with_reducible repeat (first|apply ra_|apply rn_|apply rd_));exact Kd.R_mono HO154.out (fun _ hk=>hk.2)⟩,⟨by (with_reducible repeat (first|apply ra_|apply rn_|apply rd_));exact Kd.R_mono HO154.out (fun _ hk=>hk.2)⟩,⟨by (with_reducible repeat (first|refine kn_ ?_ _|refine kd_ ?_|refine ka_ ?_ _));exact BK150.out⟩,⟨by repeat (first|(with_reducible first|exact HB.out|apply ba_|apply bn_|apply bd_|refine below_set ?_ GE150.out)|exact HB.out)⟩⟩
   case round =>
    clear H'
    try clear c1
    try clear c2
    try clear p2
    try clear c4
    try clear c4b0
    try clear c4b1
    try clear c6
    try clear c11
    try clear hcz9_0
    try clear hcz9_1
    try clear hfz9_0
    try clear hfz9_1
    obtain ⟨x23_1,rfl,HA,HK1,HO_6,HO_21,BK150,HB⟩:=hrel
    cases gk with
    | zero=>exact absurd HA.out (by simp [convex_Inside.l0])
    | succ k1 =>
     have H:=HA.out
     clear HA
     simp only [convex_Inside.l0] at H
     by_cases c12 : x23_1 < (t151.length : Int)
     ·
      rw [if_pos c12] at H
      have c12b0 : decide (x23_1 < (t151.length : Int)) = true:=decide_eq_true c12
      clear c12
      by_cases c13 : 0 ≤ x23_1
      ·
       rw [if_pos c13] at H
       have c13b0 : decide (0 ≤ x23_1) = true:=decide_eq_true c13
       clear c13
       by_cases c14 : x23_1 < (t151.length : Int)
       ·
        rw [if_pos c14] at H
        have c14b0 : decide (x23_1 < (t151.length : Int)) = true:=decide_eq_true c14
        clear c14
        by_cases c15 : (t151.length : Int) = 0
        ·
         rw [if_pos c15] at H
         exact absurd H (by simp)
        rw [if_neg c15] at H
        have c15b0 : ((t151.length : Int) == 0) = false:=beq_eq_false_iff_ne.mpr c15
        have c15b1 : ((t151.length : Int) != 0) = true:=bne_iff_ne.mpr c15
        have c15b2 : ¬ (t151 = []):=fun h_=>c15 (by rw [h_];rfl)
        obtain ⟨ji16,hji16⟩ : ∃ j_ : Int,(Int.tmod (wrap64 (x23_1 + 1)) (t151.length : Int)) = j_:=⟨_,rfl⟩
        replace H : (if 0 ≤ (ji16) then (if (ji16) < (t151.length : Int) then ((convex_cross.f ((rd_T30 t151 x23_1).f0) ((rd_T30 t151 x23_1).f1) ((rd_T30 t151 (ji16)).f0) ((rd_T30 t151 (ji16)).f1) a1_0 a1_1).bind fun t159=>(if t159 ≤ 0 then (some (false,0)) else (convex_Inside.l0 k1 t151 t151 (t151.length : Int) (wrap64 (x23_1 + 1)) a1_0 a1_1))) else (none)) else (none)) = some (r1,r2):=by first|(rw [hji16] at H;exact H)|(simp only [hji16] at H ⊢;exact H)
        by_cases c17 : 0 ≤ (ji16)
        ·
         rw [if_pos c17] at H
         have c17b0 : decide (0 ≤ (ji16)) = true:=decide_eq_true c17
         clear c17
         by_cases c18 : (ji16) < (t151.length : Int)
         ·
          rw [if_pos c18] at H
          have c18b0 : decide ((ji16) < (t151.length : Int)) = true:=decide_eq_true c18
          clear c18
          replace H:=Option.bind_eq_some_iff.mp H
          obtain ⟨t159,A190,H⟩:=H
          replace H : (if t159 ≤ 0 then (some (false,0)) else (convex_Inside.l0 k1 t151 t151 (t151.length : Int) (wrap64 (x23_1 + 1)) a1_0 a1_1)) = some (r1,r2):=H
          have A19:=Aside0.mk A190
          clear A190
          by_cases c20 : t159 ≤ 0
          ·
           rw [if_pos c20] at H
           have c20b0 : decide (t159 ≤ 0) = true:=decide_eq_true c20
           clear c20
           simp only [Option.some.injEq,Prod.mk.injEq] at H
           obtain ⟨rfl,rfl⟩:=H
           have p156 : 0 ≤ (x23_1 : Int):=of_decide_eq_true (by first|(with_reducible assumption)|assumption)
           have q156 : x23_1 < (t151.length : Int):=of_decide_eq_true (by first|(with_reducible assumption)|assumption)
           obtain ⟨ad156,e156,hx156_0,hx156_1⟩:=at_T30 (Kd.R_reads' HO_21.out).2.2 x23_1 p156 q156
           cases e156
           replace p156:=eq_true p156
           replace q156:=eq_true q156
           try go_wp2_with (first|((with_reducible refine gate_dst (N:=9) rfl ?_);refine box_event ?hg (N:=9) ?hd (cs:=#[.int .i64 0,.int .i64 0]) (t:=30) ?hr ?_;(case hd=>rfl);(case hg=>rfl);(case hr=>first|(go_simp;done)|(go_simp;rfl));intro gb157 hg w21 hbox hb;have n0_:=Aside0.mk (Kd.R_below (Kd.R_elderB (by (with_reducible repeat (first|apply ra_|apply rn_|apply rd_));exact HO_6.out) gb157 (Nat.le_of_eq hg.symm)) hb);have n1_:=Aside0.mk (Kd.R_below (Kd.R_elderB (by (with_reducible repeat (first|apply ra_|apply rn_|apply rd_));exact HO_21.out) gb157 (Nat.le_of_eq hg.symm)) hb);have n2_:=Aside0.mk (blk_below (g:=gb150) (o:=.cells #[.int .i64 a1_0,.int .i64 a1_1] 30 (0,0)) (by (with_reducible repeat (first|refine kn_ ?_ _|refine kd_ ?_|refine ka_ ?_ _));exact BK150.out) hb);have n3_:=Aside0.mk (below_step (by repeat (first|(with_reducible first|exact HB.out|apply ba_|apply bn_|apply bd_|refine below_set ?_ GE150.out)|exact HB.out)) hb);have n4_:=Aside0.mk (hbox);have n5_:=Aside0.mk ((by rw [hg];exact (below_size (by repeat (first|(with_reducible first|exact HB.out|apply ba_|apply bn_|apply bd_|refine below_set ?_ GE150.out)|exact HB.out))) : w.heap.size ≤ gb157));have n6_:=Aside0.mk ((by rw [hg];exact (below_size (by repeat (first|(with_reducible first|exact HB.out|apply ba_|apply bn_|apply bd_|refine below_set ?_ GE150.out)|exact HB.out))) : w.heap.size ≤ gb157));have n7_:=Aside0.mk ((by rw [hg];exact Nat.ne_of_lt (blk_lt (g:=gb150) (o:=.cells #[.int .i64 a1_0,.int .i64 a1_1] 30 (0,0)) (by (with_reducible repeat (first|refine kn_ ?_ _|refine kd_ ?_|refine ka_ ?_ _));exact BK150.out)) : gb150 ≠ gb157));have n8_:=Aside0.mk ((by rw [hg];exact Nat.ne_of_gt (blk_lt (g:=gb150) (o:=.cells #[.int .i64 a1_0,.int .i64 a1_1] 30 (0,0)) (by (with_reducible repeat (first|refine kn_ ?_ _|refine kd_ ?_|refine ka_ ?_ _));exact BK150.out)) : gb157 ≠ gb150));clear HO_6;clear HO_21;clear BK150;clear HB;have HO_6:=n0_;have HO_21:=n1_;have BK150:=n2_;have HB:=n3_;have BK157:=n4_;have GW157:=n5_;have GE157:=n6_;have NB150_157:=n7_;have NB157_150:=n8_;clear n0_ n1_ n2_ n3_ n4_ n5_ n6_ n7_ n8_;clear hb hbox hg;have hnb22:=NB157_150.out;have hnc22:=NB150_157.out;have hcz23_0 : w21.cell? ⟨gb157,0,none⟩ = some (.int .i64 0):=(blk_cell BK157.out 0).trans rfl;have hcz23_1 : w21.cell? ⟨gb157,1,none⟩ = some (.int .i64 0):=(blk_cell BK157.out 1).trans rfl;have hfz23_0:=blk_frozen BK157.out 0;have hfz23_1:=blk_frozen BK157.out 1))
           have n0_ : Aside0 (Kd.R k30 30 ((w21.setCell ⟨gb157,0,none⟩ (.int .i64 ((rd_T30 t151 x23_1).f0))).setCell ⟨gb157,1,none⟩ (.int .i64 ((rd_T30 t151 x23_1).f1))) w.heap.size (fun k_=>k_ ≠ gb150∧k_ ≠ gb157) (.slice (some ad156) t151.length co11) t151):=⟨by (with_reducible repeat (first|apply ra_|apply rn_|apply rd_));exact Kd.R_mono (Kd.R_far (p:=⟨gb157,1,none⟩) (Kd.R_far (p:=⟨gb157,0,none⟩) (Kd.R_mono HO_6.out (fun k_ hk=>(⟨hk,hk.2⟩ : _∧k_ ≠ gb157))) (fun _ hk=>hk.2) (.int .i64 ((rd_T30 t151 x23_1).f0))) (fun _ hk=>hk.2) (.int .i64 ((rd_T30 t151 x23_1).f1))) (fun _ hk=>⟨hk.1.1,hk.1.2⟩)⟩
           have n1_ : Aside0 (Kd.R k30 30 ((w21.setCell ⟨gb157,0,none⟩ (.int .i64 ((rd_T30 t151 x23_1).f0))).setCell ⟨gb157,1,none⟩ (.int .i64 ((rd_T30 t151 x23_1).f1))) w.heap.size (fun k_=>k_ ≠ gb150∧k_ ≠ gb157) (.slice (some ad156) t151.length co11) t151):=⟨by (with_reducible repeat (first|apply ra_|apply rn_|apply rd_));exact Kd.R_mono (Kd.R_far (p:=⟨gb157,1,none⟩) (Kd.R_far (p:=⟨gb157,0,none⟩) (Kd.R_mono HO_21.out (fun k_ hk=>(⟨hk,hk.2⟩ : _∧k_ ≠ gb157))) (fun _ hk=>hk.2) (.int .i64 ((rd_T30 t151 x23_1).f0))) (fun _ hk=>hk.2) (.int .i64 ((rd_T30 t151 x23_1).f1))) (fun _ hk=>⟨hk.1.1,hk.1.2⟩)⟩
           have n2_ : Aside0 (((w21.setCell ⟨gb157,0,none⟩ (.int .i64 ((rd_T30 t151 x23_1).f0))).setCell ⟨gb157,1,none⟩ (.int .i64 ((rd_T30 t151 x23_1).f1))).heap[gb150]? = some (.cells #[.int .i64 a1_0,.int .i64 a1_1] 30 (0,0))):=⟨by (with_reducible repeat (first|refine kn_ ?_ _|refine kd_ ?_|refine ka_ ?_ _));refine blk_far ?_ NB150_157.out _;(with_reducible repeat (first|refine kn_ ?_ _|refine kd_ ?_|refine ka_ ?_ _));refine blk_far ?_ NB150_157.out _;(with_reducible repeat (first|refine kn_ ?_ _|refine kd_ ?_|refine ka_ ?_ _));exact BK150.out⟩
           have n3_ : Aside0 (((w21.setCell ⟨gb157,0,none⟩ (.int .i64 ((rd_T30 t151 x23_1).f0))).setCell ⟨gb157,1,none⟩ (.int .i64 ((rd_T30 t151 x23_1).f1))).heap[gb157]? = some (.cells #[.int .i64 ((rd_T30 t151 x23_1).f0),.int .i64 ((rd_T30 t151 x23_1).f1)] 30 (0,0))):=⟨by (with_reducible repeat (first|refine kn_ ?_ _|refine kd_ ?_|refine ka_ ?_ _));refine blk_put (cs:=#[.int .i64 ((rd_T30 t151 x23_1).f0),.int .i64 0]) ?_ 1 _ rfl;(with_reducible repeat (first|refine kn_ ?_ _|refine kd_ ?_|refine ka_ ?_ _));refine blk_put (cs:=#[.int .i64 0,.int .i64 0]) ?_ 0 _ rfl;(with_reducible repeat (first|refine kn_ ?_ _|refine kd_ ?_|refine ka_ ?_ _));exact BK157.out⟩
           have n4_ : Aside0 (Below w.heap.size w ((w21.setCell ⟨gb157,0,none⟩ (.int .i64 ((rd_T30 t151 x23_1).f0))).setCell ⟨gb157,1,none⟩ (.int .i64 ((rd_T30 t151 x23_1).f1)))):=⟨by repeat (first|(with_reducible first|exact HB.out|apply ba_|apply bn_|apply bd_|refine below_set ?_ GE150.out|refine below_set ?_ GE157.out)|exact HB.out)⟩
           (try clear HO_6)
           (try clear HO_21)
           (try clear BK150)
           (try clear BK157)
           (try clear HB)
           generalize ((w21.setCell ⟨gb157,0,none⟩ (.int .i64 ((rd_T30 t151 x23_1).f0))).setCell ⟨gb157,1,none⟩ (.int .i64 ((rd_T30 t151 x23_1).f1))) = w24 at n0_ n1_ n2_ n3_ n4_ ⊢
           have HO_6:=n0_
           have HO_21:=n1_
           have BK150:=n2_
           have BK157:=n3_
           have HB:=n4_
           clear n0_ n1_ n2_ n3_ n4_
           have n0_:=Aside0.mk (rd_ HO_6.out)
           have n1_:=Aside0.mk (rd_ HO_21.out)
           have n2_:=Aside0.mk (kd_ BK150.out)
           have n3_:=Aside0.mk (kd_ BK157.out)
           have n4_:=Aside0.mk (bd_ HB.out)
           clear HO_6
           clear HO_21
           clear BK150
           clear BK157
           clear HB
           have HO_6:=n0_
           have HO_21:=n1_
           have BK150:=n2_
           have BK157:=n3_
           have HB:=n4_
           clear n0_ n1_ n2_ n3_ n4_
           have p158 : 0 ≤ ((ji16) : Int):=of_decide_eq_true (by first|(with_reducible assumption)|assumption)
           have q158 : (ji16) < (t151.length : Int):=of_decide_eq_true (by first|(with_reducible assumption)|assumption)
           obtain ⟨ad158,e158,hx158_0,hx158_1⟩:=at_T30 (Kd.R_reads' HO_6.out).2.2 (ji16) p158 q158
           obtain rfl : ad156 = ad158:=(by injection e158)
           replace p158:=eq_true p158
           replace q158:=eq_true q158
           refine start_ (n:=12) (S:=fun w'=>w'.cell? ⟨gb157,0,none⟩ = some (.int .i64 ((rd_T30 t151 x23_1).f0))∧w'.cell? ⟨gb157,1,none⟩ = some (.int .i64 ((rd_T30 t151 x23_1).f1))∧w'.cell? ⟨gb150,0,none⟩ = some (.int .i64 a1_0)∧w'.cell? ⟨gb150,1,none⟩ = some (.int .i64 a1_1)∧w'.cell? (ad156.add (((ji16)).toNat * 2)) = some (.int .i64 ((rd_T30 t151 (ji16)).f0))∧w'.cell? ⟨(ad156.add (((ji16)).toNat * 2)).block,(ad156.add (((ji16)).toNat * 2)).off + 1,none⟩ = some (.int .i64 ((rd_T30 t151 (ji16)).f1))) (ds:=[]) #[false,false,false,false,false,false,false,false,false,false,false,false] (by kernel_rfl) rfl rfl ⟨(blk_cell BK157.out 0).trans rfl,(blk_cell BK157.out 1).trans rfl,(blk_cell BK150.out 0).trans rfl,(blk_cell BK150.out 1).trans rfl,hx158_0,hx158_1⟩ (fun hHeld=>?_);refine with_tabW convex_Inside.tab9 convex_Inside.bits9 (fun HT_ HW_=>?_)
           generalize w24.drew = w25 at HO_6 HO_21 BK150 BK157 HB hx158_0 hx158_1 hHeld ⊢
           refine pure_ (i:=1) (N:=some 29) (v:=?_) (a':=?_) #[false,true,false,false,false,false,false,false,false,false,false,false] rfl rfl (any_of HT_.out (by kernel_rfl)) (fun _ _ _ h=>h) (Or.inl ⟨by rfl,?_⟩) ?_ ?_
           rotate_left
           ·
            intro w'
            go_simp
            with_reducible rfl
           rotate_left
           ·
            simp only [Act.put,la_,l0_,l1_,i64_w,i32_w]
            rfl
           refine pure_ (i:=2) (N:=some 30) (v:=?_) (a':=?_) #[false,true,true,false,false,false,false,false,false,false,false,false] rfl rfl (any_of HT_.out (by kernel_rfl)) (fun _ _ _ h=>h) (Or.inl ⟨by rfl,?_⟩) ?_ ?_
           rotate_left
           ·
            intro w'
            go_simp
            with_reducible rfl
           rotate_left
           ·
            simp only [Act.put,la_,l0_,l1_,i64_w,i32_w]
            rfl
           refine pure_ (i:=3) (N:=some 31) (v:=?_) (a':=?_) #[false,true,true,true,false,false,false,false,false,false,false,false] rfl rfl (any_of HT_.out (by kernel_rfl)) (fun _ _ _ h=>h) (Or.inl ⟨by rfl,?_⟩) ?_ ?_
           rotate_left
           ·
            intro w'
            go_simp
            with_reducible rfl
           rotate_left
           ·
            simp only [Act.put,la_,l0_,l1_,i64_w,i32_w]
            rfl
           refine pure_ (i:=4) (N:=some 32) (v:=?_) (a':=?_) #[false,true,true,true,true,false,false,false,false,false,false,false] rfl rfl (any_of HT_.out (by kernel_rfl)) (fun _ _ _ h=>h) (Or.inl ⟨by rfl,?_⟩) ?_ ?_
           rotate_left
           ·
            intro w'
            go_simp
            with_reducible rfl
           rotate_left
           ·
            simp only [Act.put,la_,l0_,l1_,i64_w,i32_w]
            rfl
           refine pure_ (i:=5) (N:=some 33) (v:=?_) (a':=?_) #[false,true,true,true,true,true,false,false,false,false,false,false] rfl rfl (any_of HT_.out (by kernel_rfl)) (fun _ _ _ h=>h) (Or.inl ⟨by rfl,?_⟩) ?_ ?_
           rotate_left
           ·
            intro w'
            go_simp
            with_reducible rfl
           rotate_left
           ·
            simp only [Act.put,la_,l0_,l1_,i64_w,i32_w]
            rfl
           refine pure_ (i:=6) (N:=some 34) (v:=?_) (a':=?_) #[false,true,true,true,true,true,true,false,false,false,false,false] rfl rfl (any_of HT_.out (by kernel_rfl)) (fun _ _ _ h=>h) (Or.inl ⟨by rfl,?_⟩) ?_ ?_
           rotate_left
           ·
            intro w'
            go_simp
            with_reducible rfl
           rotate_left
           ·
            simp only [Act.put,la_,l0_,l1_,i64_w,i32_w]
            rfl
           refine pure_ (i:=7) (N:=some 35) (v:=?_) (a':=?_) #[false,true,true,true,true,true,true,true,false,false,false,false] rfl rfl (any_of HT_.out (by kernel_rfl)) (fun _ _ _ h=>h) (Or.inl ⟨by rfl,?_⟩) ?_ ?_
           rotate_left
           ·
            intro w'
            go_simp
            with_reducible rfl
           rotate_left
           ·
            simp only [Act.put,la_,l0_,l1_,i64_w,i32_w]
            rfl
           refine take_ (i:=0) (N:=some 28) (v:=?_) (a':=?_) #[true,true,true,true,true,true,true,true,false,false,false,false] rfl rfl (take_ofW HT_.out HW_.out (by kernel_rfl)) (fun _ _ _ h=>h) (Or.inl ⟨by rfl,?_⟩) hHeld ?_ ?_
           rotate_left
           ·
            rintro w' ⟨s0,s1,s2,s3,s4,s5⟩
            go_simp
            with_reducible rfl
           rotate_left
           ·
            simp only [Act.put,la_,l0_,l1_,i64_w,i32_w]
            rfl
           refine take_ (i:=8) (N:=some 36) (v:=?_) (a':=?_) #[true,true,true,true,true,true,true,true,true,false,false,false] rfl rfl (take_ofW HT_.out HW_.out (by kernel_rfl)) (fun _ _ _ h=>h) (Or.inl ⟨by rfl,?_⟩) hHeld ?_ ?_
           rotate_left
           ·
            rintro w' ⟨s0,s1,s2,s3,s4,s5⟩
            go_simp
            with_reducible rfl
           rotate_left
           ·
            simp only [Act.put,la_,l0_,l1_,i64_w,i32_w]
            rfl
           refine take_ (i:=9) (N:=some 37) (v:=?_) (a':=?_) #[true,true,true,true,true,true,true,true,true,true,false,false] rfl rfl (take_ofW HT_.out HW_.out (by kernel_rfl)) (fun _ _ _ h=>h) (Or.inl ⟨by rfl,?_⟩) hHeld ?_ ?_
           rotate_left
           ·
            rintro w' ⟨s0,s1,s2,s3,s4,s5⟩
            go_simp
            with_reducible rfl
           rotate_left
           ·
            simp only [Act.put,la_,l0_,l1_,i64_w,i32_w]
            rfl
           refine one_ (i:=10) (N:=some 38) #[true,true,true,true,true,true,true,true,true,true,true,false] rfl rfl (one_of HT_.out (by kernel_rfl)) (by decide) (fun K hK=>?_)
           refine goes_ Try.func32 (by kernel_rfl) rfl #[.agg #[.int .i64 ((rd_T30 t151 x23_1).f0),.int .i64 ((rd_T30 t151 x23_1).f1)],.agg #[.int .i64 ((rd_T30 t151 (ji16)).f0),.int .i64 ((rd_T30 t151 (ji16)).f1)],.agg #[.int .i64 a1_0,.int .i64 a1_1]] (by rfl) rfl rfl (by (try simp only [List.map_toArray,List.map_cons,List.map_nil]);first|done|(simp only [hji16];rfl)|rfl|(simp only [List.length_drop,List.length_take];rfl)) ?_
           with_reducible refine (convex_cross.calls ((rd_T30 t151 x23_1).f0) ((rd_T30 t151 x23_1).f1) ((rd_T30 t151 (ji16)).f0) ((rd_T30 t151 (ji16)).f1) a1_0 a1_1 t159 _ A19.out).mono ?_
           rintro e w26 ⟨rfl,hb⟩
           have HS4_:=(hb.cell (bl_ _ _ (hHeld.2.2.2.2.1))).trans (hHeld.2.2.2.2.1)
           have HS5_:=(hb.cell (bl_ _ _ (hHeld.2.2.2.2.2))).trans (hHeld.2.2.2.2.2)
           refine ⟨_,rfl,?_⟩
           have n0_:=Aside0.mk (Kd.R_below (by (with_reducible repeat (first|apply ra_|apply rn_|apply rd_));exact HO_6.out) hb)
           have n1_:=Aside0.mk (Kd.R_below (by (with_reducible repeat (first|apply ra_|apply rn_|apply rd_));exact HO_21.out) hb)
           have n2_:=Aside0.mk (blk_below (g:=gb150) (o:=.cells #[.int .i64 a1_0,.int .i64 a1_1] 30 (0,0)) (by (with_reducible repeat (first|refine kn_ ?_ _|refine kd_ ?_|refine ka_ ?_ _));exact BK150.out) hb)
           have n3_:=Aside0.mk (blk_below (g:=gb157) (o:=.cells #[.int .i64 ((rd_T30 t151 x23_1).f0),.int .i64 ((rd_T30 t151 x23_1).f1)] 30 (0,0)) (by (with_reducible repeat (first|refine kn_ ?_ _|refine kd_ ?_|refine ka_ ?_ _));exact BK157.out) hb)
           have n4_:=Aside0.mk (below_step (by repeat (first|(with_reducible first|exact HB.out|apply ba_|apply bn_|apply bd_|refine below_set ?_ GE150.out|refine below_set ?_ GE157.out)|exact HB.out)) hb)
           clear HO_6
           clear HO_21
           clear BK150
           clear BK157
           clear HB
           have HO_6:=n0_
           have HO_21:=n1_
           have BK150:=n2_
           have BK157:=n3_
           have HB:=n4_
           clear n0_ n1_ n2_ n3_ n4_
           (try clear hb)
           (try clear hb2)
           (try clear hk)
           (try clear hi)
           refine hK.out _ _ ⟨(blk_cell BK157.out 0).trans rfl,(blk_cell BK157.out 1).trans rfl,(blk_cell BK150.out 0).trans rfl,(blk_cell BK150.out 1).trans rfl,HS4_,HS5_⟩ (fun hHeld=>?_)
           clear hK K
           refine norm_ (a':=?_) ?_ ?_
           rotate_left
           ·
            show Act.put _ (some 38) _ = _
            simp only [Act.put,la_,l0_,l1_,i64_w,i32_w]
            rfl
           refine pure_ (i:=11) (N:=some 39) (v:=?_) (a':=?_) #[true,true,true,true,true,true,true,true,true,true,true,true] rfl rfl (any_of HT_.out (by kernel_rfl)) (fun _ _ _ h=>h) (Or.inl ⟨by rfl,?_⟩) ?_ ?_
           rotate_left
           ·
            intro w'
            go_simp
            with_reducible rfl
           rotate_left
           ·
            simp only [Act.put,la_,l0_,l1_,i64_w,i32_w]
            rfl
           refine done_ (done_of HT_.out (by kernel_rfl)) ?_
           try go_wp2
           go_ret2
           exact ⟨by first|rfl|(simp [errW_none,errW_some] <;> rfl)|(simp only [← hji16];first|rfl|(simp [errW_none,errW_some] <;> rfl))|(simp [*,errW_none,errW_some] <;> rfl),by repeat (first|(with_reducible first|exact HB.out|apply ba_|apply bn_|apply bd_|refine below_set ?_ GE150.out|refine below_set ?_ GE157.out)|exact HB.out)⟩
          rw [if_neg c20] at H
          have c20b0 : decide (t159 ≤ 0) = false:=decide_eq_false c20
          clear c20
          have H':=Aside0.mk H
          clear H
          have p156 : 0 ≤ (x23_1 : Int):=of_decide_eq_true (by first|(with_reducible assumption)|assumption)
          have q156 : x23_1 < (t151.length : Int):=of_decide_eq_true (by first|(with_reducible assumption)|assumption)
          obtain ⟨ad156,e156,hx156_0,hx156_1⟩:=at_T30 (Kd.R_reads' HO_21.out).2.2 x23_1 p156 q156
          cases e156
          replace p156:=eq_true p156
          replace q156:=eq_true q156
          try go_wp2_with (first|((with_reducible refine gate_dst (N:=9) rfl ?_);refine box_event ?hg (N:=9) ?hd (cs:=#[.int .i64 0,.int .i64 0]) (t:=30) ?hr ?_;(case hd=>rfl);(case hg=>rfl);(case hr=>first|(go_simp;done)|(go_simp;rfl));intro gb157 hg w27 hbox hb;have n0_:=Aside0.mk (Kd.R_below (Kd.R_elderB (by (with_reducible repeat (first|apply ra_|apply rn_|apply rd_));exact HO_6.out) gb157 (Nat.le_of_eq hg.symm)) hb);have n1_:=Aside0.mk (Kd.R_below (Kd.R_elderB (by (with_reducible repeat (first|apply ra_|apply rn_|apply rd_));exact HO_21.out) gb157 (Nat.le_of_eq hg.symm)) hb);have n2_:=Aside0.mk (blk_below (g:=gb150) (o:=.cells #[.int .i64 a1_0,.int .i64 a1_1] 30 (0,0)) (by (with_reducible repeat (first|refine kn_ ?_ _|refine kd_ ?_|refine ka_ ?_ _));exact BK150.out) hb);have n3_:=Aside0.mk (below_step (by repeat (first|(with_reducible first|exact HB.out|apply ba_|apply bn_|apply bd_|refine below_set ?_ GE150.out)|exact HB.out)) hb);have n4_:=Aside0.mk (hbox);have n5_:=Aside0.mk ((by rw [hg];exact (below_size (by repeat (first|(with_reducible first|exact HB.out|apply ba_|apply bn_|apply bd_|refine below_set ?_ GE150.out)|exact HB.out))) : w.heap.size ≤ gb157));have n6_:=Aside0.mk ((by rw [hg];exact (below_size (by repeat (first|(with_reducible first|exact HB.out|apply ba_|apply bn_|apply bd_|refine below_set ?_ GE150.out)|exact HB.out))) : w.heap.size ≤ gb157));have n7_:=Aside0.mk ((by rw [hg];exact Nat.ne_of_lt (blk_lt (g:=gb150) (o:=.cells #[.int .i64 a1_0,.int .i64 a1_1] 30 (0,0)) (by (with_reducible repeat (first|refine kn_ ?_ _|refine kd_ ?_|refine ka_ ?_ _));exact BK150.out)) : gb150 ≠ gb157));have n8_:=Aside0.mk ((by rw [hg];exact Nat.ne_of_gt (blk_lt (g:=gb150) (o:=.cells #[.int .i64 a1_0,.int .i64 a1_1] 30 (0,0)) (by (with_reducible repeat (first|refine kn_ ?_ _|refine kd_ ?_|refine ka_ ?_ _));exact BK150.out)) : gb157 ≠ gb150));clear HO_6;clear HO_21;clear BK150;clear HB;have HO_6:=n0_;have HO_21:=n1_;have BK150:=n2_;have HB:=n3_;have BK157:=n4_;have GW157:=n5_;have GE157:=n6_;have NB150_157:=n7_;have NB157_150:=n8_;clear n0_ n1_ n2_ n3_ n4_ n5_ n6_ n7_ n8_;clear hb hbox hg;have hnb28:=NB157_150.out;have hnc28:=NB150_157.out;have hcz29_0 : w27.cell? ⟨gb157,0,none⟩ = some (.int .i64 0):=(blk_cell BK157.out 0).trans rfl;have hcz29_1 : w27.cell? ⟨gb157,1,none⟩ = some (.int .i64 0):=(blk_cell BK157.out 1).trans rfl;have hfz29_0:=blk_frozen BK157.out 0;have hfz29_1:=blk_frozen BK157.out 1))
          have n0_ : Aside0 (Kd.R k30 30 ((w27.setCell ⟨gb157,0,none⟩ (.int .i64 ((rd_T30 t151 x23_1).f0))).setCell ⟨gb157,1,none⟩ (.int .i64 ((rd_T30 t151 x23_1).f1))) w.heap.size (fun k_=>k_ ≠ gb150∧k_ ≠ gb157) (.slice (some ad156) t151.length co11) t151):=⟨by (with_reducible repeat (first|apply ra_|apply rn_|apply rd_));exact Kd.R_mono (Kd.R_far (p:=⟨gb157,1,none⟩) (Kd.R_far (p:=⟨gb157,0,none⟩) (Kd.R_mono HO_6.out (fun k_ hk=>(⟨hk,hk.2⟩ : _∧k_ ≠ gb157))) (fun _ hk=>hk.2) (.int .i64 ((rd_T30 t151 x23_1).f0))) (fun _ hk=>hk.2) (.int .i64 ((rd_T30 t151 x23_1).f1))) (fun _ hk=>⟨hk.1.1,hk.1.2⟩)⟩
          have n1_ : Aside0 (Kd.R k30 30 ((w27.setCell ⟨gb157,0,none⟩ (.int .i64 ((rd_T30 t151 x23_1).f0))).setCell ⟨gb157,1,none⟩ (.int .i64 ((rd_T30 t151 x23_1).f1))) w.heap.size (fun k_=>k_ ≠ gb150∧k_ ≠ gb157) (.slice (some ad156) t151.length co11) t151):=⟨by (with_reducible repeat (first|apply ra_|apply rn_|apply rd_));exact Kd.R_mono (Kd.R_far (p:=⟨gb157,1,none⟩) (Kd.R_far (p:=⟨gb157,0,none⟩) (Kd.R_mono HO_21.out (fun k_ hk=>(⟨hk,hk.2⟩ : _∧k_ ≠ gb157))) (fun _ hk=>hk.2) (.int .i64 ((rd_T30 t151 x23_1).f0))) (fun _ hk=>hk.2) (.int .i64 ((rd_T30 t151 x23_1).f1))) (fun _ hk=>⟨hk.1.1,hk.1.2⟩)⟩
          have n2_ : Aside0 (((w27.setCell ⟨gb157,0,none⟩ (.int .i64 ((rd_T30 t151 x23_1).f0))).setCell ⟨gb157,1,none⟩ (.int .i64 ((rd_T30 t151 x23_1).f1))).heap[gb150]? = some (.cells #[.int .i64 a1_0,.int .i64 a1_1] 30 (0,0))):=⟨by (with_reducible repeat (first|refine kn_ ?_ _|refine kd_ ?_|refine ka_ ?_ _));refine blk_far ?_ NB150_157.out _;(with_reducible repeat (first|refine kn_ ?_ _|refine kd_ ?_|refine ka_ ?_ _));refine blk_far ?_ NB150_157.out _;(with_reducible repeat (first|refine kn_ ?_ _|refine kd_ ?_|refine ka_ ?_ _));exact BK150.out⟩
          have n3_ : Aside0 (((w27.setCell ⟨gb157,0,none⟩ (.int .i64 ((rd_T30 t151 x23_1).f0))).setCell ⟨gb157,1,none⟩ (.int .i64 ((rd_T30 t151 x23_1).f1))).heap[gb157]? = some (.cells #[.int .i64 ((rd_T30 t151 x23_1).f0),.int .i64 ((rd_T30 t151 x23_1).f1)] 30 (0,0))):=⟨by (with_reducible repeat (first|refine kn_ ?_ _|refine kd_ ?_|refine ka_ ?_ _));refine blk_put (cs:=#[.int .i64 ((rd_T30 t151 x23_1).f0),.int .i64 0]) ?_ 1 _ rfl;(with_reducible repeat (first|refine kn_ ?_ _|refine kd_ ?_|refine ka_ ?_ _));refine blk_put (cs:=#[.int .i64 0,.int .i64 0]) ?_ 0 _ rfl;(with_reducible repeat (first|refine kn_ ?_ _|refine kd_ ?_|refine ka_ ?_ _));exact BK157.out⟩
          have n4_ : Aside0 (Below w.heap.size w ((w27.setCell ⟨gb157,0,none⟩ (.int .i64 ((rd_T30 t151 x23_1).f0))).setCell ⟨gb157,1,none⟩ (.int .i64 ((rd_T30 t151 x23_1).f1)))):=⟨by repeat (first|(with_reducible first|exact HB.out|apply ba_|apply bn_|apply bd_|refine below_set ?_ GE150.out|refine below_set ?_ GE157.out)|exact HB.out)⟩
          (try clear HO_6)
          (try clear HO_21)
          (try clear BK150)
          (try clear BK157)
          (try clear HB)
          generalize ((w27.setCell ⟨gb157,0,none⟩ (.int .i64 ((rd_T30 t151 x23_1).f0))).setCell ⟨gb157,1,none⟩ (.int .i64 ((rd_T30 t151 x23_1).f1))) = w30 at n0_ n1_ n2_ n3_ n4_ ⊢
          have HO_6:=n0_
          have HO_21:=n1_
          have BK150:=n2_
          have BK157:=n3_
          have HB:=n4_
          clear n0_ n1_ n2_ n3_ n4_
          have n0_:=Aside0.mk (rd_ HO_6.out)
          have n1_:=Aside0.mk (rd_ HO_21.out)
          have n2_:=Aside0.mk (kd_ BK150.out)
          have n3_:=Aside0.mk (kd_ BK157.out)
          have n4_:=Aside0.mk (bd_ HB.out)
          clear HO_6
          clear HO_21
          clear BK150
          clear BK157
          clear HB
          have HO_6:=n0_
          have HO_21:=n1_
          have BK150:=n2_
          have BK157:=n3_
          have HB:=n4_
          clear n0_ n1_ n2_ n3_ n4_
          have p158 : 0 ≤ ((ji16) : Int):=of_decide_eq_true (by first|(with_reducible assumption)|assumption)
          have q158 : (ji16) < (t151.length : Int):=of_decide_eq_true (by first|(with_reducible assumption)|assumption)
          obtain ⟨ad158,e158,hx158_0,hx158_1⟩:=at_T30 (Kd.R_reads' HO_6.out).2.2 (ji16) p158 q158
          obtain rfl : ad156 = ad158:=(by injection e158)
          replace p158:=eq_true p158
          replace q158:=eq_true q158
          refine start_ (n:=12) (S:=fun w'=>w'.cell? ⟨gb157,0,none⟩ = some (.int .i64 ((rd_T30 t151 x23_1).f0))∧w'.cell? ⟨gb157,1,none⟩ = some (.int .i64 ((rd_T30 t151 x23_1).f1))∧w'.cell? ⟨gb150,0,none⟩ = some (.int .i64 a1_0)∧w'.cell? ⟨gb150,1,none⟩ = some (.int .i64 a1_1)∧w'.cell? (ad156.add (((ji16)).toNat * 2)) = some (.int .i64 ((rd_T30 t151 (ji16)).f0))∧w'.cell? ⟨(ad156.add (((ji16)).toNat * 2)).block,(ad156.add (((ji16)).toNat * 2)).off + 1,none⟩ = some (.int .i64 ((rd_T30 t151 (ji16)).f1))) (ds:=[]) #[false,false,false,false,false,false,false,false,false,false,false,false] (by kernel_rfl) rfl rfl ⟨(blk_cell BK157.out 0).trans rfl,(blk_cell BK157.out 1).trans rfl,(blk_cell BK150.out 0).trans rfl,(blk_cell BK150.out 1).trans rfl,hx158_0,hx158_1⟩ (fun hHeld=>?_);refine with_tabW convex_Inside.tab9 convex_Inside.bits9 (fun HT_ HW_=>?_)
          generalize w30.drew = w31 at HO_6 HO_21 BK150 BK157 HB hx158_0 hx158_1 hHeld ⊢
          refine pure_ (i:=1) (N:=some 29) (v:=?_) (a':=?_) #[false,true,false,false,false,false,false,false,false,false,false,false] rfl rfl (any_of HT_.out (by kernel_rfl)) (fun _ _ _ h=>h) (Or.inl ⟨by rfl,?_⟩) ?_ ?_
          rotate_left
          ·
           intro w'
           go_simp
           with_reducible rfl
          rotate_left
          ·
           simp only [Act.put,la_,l0_,l1_,i64_w,i32_w]
           rfl
          refine pure_ (i:=2) (N:=some 30) (v:=?_) (a':=?_) #[false,true,true,false,false,false,false,false,false,false,false,false] rfl rfl (any_of HT_.out (by kernel_rfl)) (fun _ _ _ h=>h) (Or.inl ⟨by rfl,?_⟩) ?_ ?_
          rotate_left
          ·
           intro w'
           go_simp
           with_reducible rfl
          rotate_left
          ·
           simp only [Act.put,la_,l0_,l1_,i64_w,i32_w]
           rfl
          refine pure_ (i:=3) (N:=some 31) (v:=?_) (a':=?_) #[false,true,true,true,false,false,false,false,false,false,false,false] rfl rfl (any_of HT_.out (by kernel_rfl)) (fun _ _ _ h=>h) (Or.inl ⟨by rfl,?_⟩) ?_ ?_
          rotate_left
          ·
           intro w'
           go_simp
           with_reducible rfl
          rotate_left
          ·
           simp only [Act.put,la_,l0_,l1_,i64_w,i32_w]
           rfl
          refine pure_ (i:=4) (N:=some 32) (v:=?_) (a':=?_) #[false,true,true,true,true,false,false,false,false,false,false,false] rfl rfl (any_of HT_.out (by kernel_rfl)) (fun _ _ _ h=>h) (Or.inl ⟨by rfl,?_⟩) ?_ ?_
          rotate_left
          ·
           intro w'
           go_simp
           with_reducible rfl
          rotate_left
          ·
           simp only [Act.put,la_,l0_,l1_,i64_w,i32_w]
           rfl
          refine pure_ (i:=5) (N:=some 33) (v:=?_) (a':=?_) #[false,true,true,true,true,true,false,false,false,false,false,false] rfl rfl (any_of HT_.out (by kernel_rfl)) (fun _ _ _ h=>h) (Or.inl ⟨by rfl,?_⟩) ?_ ?_
          rotate_left
          ·
           intro w'
           go_simp
           with_reducible rfl
          rotate_left
          ·
           simp only [Act.put,la_,l0_,l1_,i64_w,i32_w]
           rfl
          refine pure_ (i:=6) (N:=some 34) (v:=?_) (a':=?_) #[false,true,true,true,true,true,true,false,false,false,false,false] rfl rfl (any_of HT_.out (by kernel_rfl)) (fun _ _ _ h=>h) (Or.inl ⟨by rfl,?_⟩) ?_ ?_
          rotate_left
          ·
           intro w'
           go_simp
           with_reducible rfl
          rotate_left
          ·
           simp only [Act.put,la_,l0_,l1_,i64_w,i32_w]
           rfl
          refine pure_ (i:=7) (N:=some 35) (v:=?_) (a':=?_) #[false,true,true,true,true,true,true,true,false,false,false,false] rfl rfl (any_of HT_.out (by kernel_rfl)) (fun _ _ _ h=>h) (Or.inl ⟨by rfl,?_⟩) ?_ ?_
          rotate_left
          ·
           intro w'
           go_simp
           with_reducible rfl
          rotate_left
          ·
           simp only [Act.put,la_,l0_,l1_,i64_w,i32_w]
           rfl
          refine take_ (i:=0) (N:=some 28) (v:=?_) (a':=?_) #[true,true,true,true,true,true,true,true,false,false,false,false] rfl rfl (take_ofW HT_.out HW_.out (by kernel_rfl)) (fun _ _ _ h=>h) (Or.inl ⟨by rfl,?_⟩) hHeld ?_ ?_
          rotate_left
          ·
           rintro w' ⟨s0,s1,s2,s3,s4,s5⟩
           go_simp
           with_reducible rfl
          rotate_left
          ·
           simp only [Act.put,la_,l0_,l1_,i64_w,i32_w]
           rfl
          refine take_ (i:=8) (N:=some 36) (v:=?_) (a':=?_) #[true,true,true,true,true,true,true,true,true,false,false,false] rfl rfl (take_ofW HT_.out HW_.out (by kernel_rfl)) (fun _ _ _ h=>h) (Or.inl ⟨by rfl,?_⟩) hHeld ?_ ?_
          rotate_left
          ·
           rintro w' ⟨s0,s1,s2,s3,s4,s5⟩
           go_simp
           with_reducible rfl
          rotate_left
          ·
           simp only [Act.put,la_,l0_,l1_,i64_w,i32_w]
           rfl
          refine take_ (i:=9) (N:=some 37) (v:=?_) (a':=?_) #[true,true,true,true,true,true,true,true,true,true,false,false] rfl rfl (take_ofW HT_.out HW_.out (by kernel_rfl)) (fun _ _ _ h=>h) (Or.inl ⟨by rfl,?_⟩) hHeld ?_ ?_
          rotate_left
          ·
           rintro w' ⟨s0,s1,s2,s3,s4,s5⟩
           go_simp
           with_reducible rfl
          rotate_left
          ·
           simp only [Act.put,la_,l0_,l1_,i64_w,i32_w]
           rfl
          refine one_ (i:=10) (N:=some 38) #[true,true,true,true,true,true,true,true,true,true,true,false] rfl rfl (one_of HT_.out (by kernel_rfl)) (by decide) (fun K hK=>?_)
          refine goes_ Try.func32 (by kernel_rfl) rfl #[.agg #[.int .i64 ((rd_T30 t151 x23_1).f0),.int .i64 ((rd_T30 t151 x23_1).f1)],.agg #[.int .i64 ((rd_T30 t151 (ji16)).f0),.int .i64 ((rd_T30 t151 (ji16)).f1)],.agg #[.int .i64 a1_0,.int .i64 a1_1]] (by rfl) rfl rfl (by (try simp only [List.map_toArray,List.map_cons,List.map_nil]);first|done|(simp only [hji16];rfl)|rfl|(simp only [List.length_drop,List.length_take];rfl)) ?_
          with_reducible refine (convex_cross.calls ((rd_T30 t151 x23_1).f0) ((rd_T30 t151 x23_1).f1) ((rd_T30 t151 (ji16)).f0) ((rd_T30 t151 (ji16)).f1) a1_0 a1_1 t159 _ A19.out).mono ?_
          rintro e w32 ⟨rfl,hb⟩
          have HS4_:=(hb.cell (bl_ _ _ (hHeld.2.2.2.2.1))).trans (hHeld.2.2.2.2.1)
          have HS5_:=(hb.cell (bl_ _ _ (hHeld.2.2.2.2.2))).trans (hHeld.2.2.2.2.2)
          refine ⟨_,rfl,?_⟩
          have n0_:=Aside0.mk (Kd.R_below (by (with_reducible repeat (first|apply ra_|apply rn_|apply rd_));exact HO_6.out) hb)
          have n1_:=Aside0.mk (Kd.R_below (by (with_reducible repeat (first|apply ra_|apply rn_|apply rd_));exact HO_21.out) hb)
          have n2_:=Aside0.mk (blk_below (g:=gb150) (o:=.cells #[.int .i64 a1_0,.int .i64 a1_1] 30 (0,0)) (by (with_reducible repeat (first|refine kn_ ?_ _|refine kd_ ?_|refine ka_ ?_ _));exact BK150.out) hb)
          have n3_:=Aside0.mk (blk_below (g:=gb157) (o:=.cells #[.int .i64 ((rd_T30 t151 x23_1).f0),.int .i64 ((rd_T30 t151 x23_1).f1)] 30 (0,0)) (by (with_reducible repeat (first|refine kn_ ?_ _|refine kd_ ?_|refine ka_ ?_ _));exact BK157.out) hb)
          have n4_:=Aside0.mk (below_step (by repeat (first|(with_reducible first|exact HB.out|apply ba_|apply bn_|apply bd_|refine below_set ?_ GE150.out|refine below_set ?_ GE157.out)|exact HB.out)) hb)
          clear HO_6
          clear HO_21
          clear BK150
          clear BK157
          clear HB
          have HO_6:=n0_
          have HO_21:=n1_
          have BK150:=n2_
          have BK157:=n3_
          have HB:=n4_
          clear n0_ n1_ n2_ n3_ n4_
          (try clear hb)
          (try clear hb2)
          (try clear hk)
          (try clear hi)
          refine hK.out _ _ ⟨(blk_cell BK157.out 0).trans rfl,(blk_cell BK157.out 1).trans rfl,(blk_cell BK150.out 0).trans rfl,(blk_cell BK150.out 1).trans rfl,HS4_,HS5_⟩ (fun hHeld=>?_)
          clear hK K
          refine norm_ (a':=?_) ?_ ?_
          rotate_left
          ·
           show Act.put _ (some 38) _ = _
           simp only [Act.put,la_,l0_,l1_,i64_w,i32_w]
           rfl
          refine pure_ (i:=11) (N:=some 39) (v:=?_) (a':=?_) #[true,true,true,true,true,true,true,true,true,true,true,true] rfl rfl (any_of HT_.out (by kernel_rfl)) (fun _ _ _ h=>h) (Or.inl ⟨by rfl,?_⟩) ?_ ?_
          rotate_left
          ·
           intro w'
           go_simp
           with_reducible rfl
          rotate_left
          ·
           simp only [Act.put,la_,l0_,l1_,i64_w,i32_w]
           rfl
          refine done_ (done_of HT_.out (by kernel_rfl)) ?_
          try go_wp2
          go_roundg k1
          case measure=>have:=HK1.out;omega
          case rel=>exact ⟨(wrap64 (x23_1 + 1)),(by first|rfl|(simp;done)|(simp [*];done)),H',⟨by have:=HK1.out;omega⟩,⟨by (with_reducible repeat (first|apply ra_|apply rn_|apply rd_));exact Kd.R_mono HO_6.out (fun _ hk=>hk.1)⟩,⟨by (with_reducible repeat (first|apply ra_|apply rn_|apply rd_));exact Kd.R_mono HO_21.out (fun _ hk=>hk.1)⟩,⟨by (with_reducible repeat (first|refine kn_ ?_ _|refine kd_ ?_|refine ka_ ?_ _));exact BK150.out⟩,⟨by repeat (first|(with_reducible first|exact HB.out|apply ba_|apply bn_|apply bd_|refine below_set ?_ GE150.out|refine below_set ?_ GE157.out)|exact HB.out)⟩⟩
         rw [if_neg c18] at H
         exact absurd H (by simp)
        rw [if_neg c17] at H
        exact absurd H (by simp)
       rw [if_neg c14] at H
       exact absurd H (by simp)
      rw [if_neg c13] at H
      exact absurd H (by simp)
     rw [if_neg c12] at H
     have c12b0 : decide (x23_1 < (t151.length : Int)) = false:=decide_eq_false c12
     clear c12
     simp only [Option.some.injEq,Prod.mk.injEq] at H
     obtain ⟨rfl,rfl⟩:=H
     go_wp2
     go_ret2
     exact ⟨by first|rfl|(simp [errW_none,errW_some] <;> rfl)|(simp [*,errW_none,errW_some] <;> rfl),by repeat (first|(with_reducible first|exact HB.out|apply ba_|apply bn_|apply bd_|refine below_set ?_ GE150.out)|exact HB.out)⟩
  replace c6:=Bool.eq_false_iff.mpr c6
  subst c6
  have H1 : (some (false,0)) = some (r1,r2):=by rw [if_neg (show ¬ (false = true) by decide)] at H;exact H
  clear H
  have H:=H1
  clear H1
  simp only [Option.some.injEq,Prod.mk.injEq] at H
  obtain ⟨rfl,rfl⟩:=H
  go_enter Try.func14,Try.ntmps14
  go_wp2_with (first|((with_reducible refine gate_dst (N:=3) rfl ?_);refine box_event ?hg (N:=3) ?hd (cs:=#[.int .i64 a1_0,.int .i64 a1_1]) (t:=30) ?hr ?_;(case hd=>rfl);(case hg=>rfl);(case hr=>first|(go_simp;done)|(go_simp;rfl));intro gb150 hg w33 hbox hb;have n0_:=Aside0.mk (below_step (by repeat (first|(with_reducible first|exact HB.out|apply ba_|apply bn_|apply bd_)|exact HB.out)) hb);have n1_:=Aside0.mk (hbox);have n2_:=Aside0.mk ((by rw [hg];exact (below_size (by repeat (first|(with_reducible first|exact HB.out|apply ba_|apply bn_|apply bd_)|exact HB.out))) : w.heap.size ≤ gb150));have n3_:=Aside0.mk ((by rw [hg];exact (below_size (by repeat (first|(with_reducible first|exact HB.out|apply ba_|apply bn_|apply bd_)|exact HB.out))) : w.heap.size ≤ gb150));clear HB;have HB:=n0_;have BK150:=n1_;have GW150:=n2_;have GE150:=n3_;clear n0_ n1_ n2_ n3_;clear hb hbox hg)|((with_reducible refine gate_callee (f:=11) rfl ?_);refine goesL_ (some 12) rfl rfl Try.func11 (by kernel_rfl) rfl #[.slice A0 l0.length c0] rfl (by (try simp only [List.map_toArray,List.map_cons,List.map_nil]);first|done|rfl|(simp only [List.length_drop,List.length_take];rfl)) ?_;(with_reducible refine (convex_Hull.calls k _ _ l0 t151 t152 _ ?side1 ?side2 A3.out).mono ?_);(case side1=>repeat (first|exact (Kd.C_below HR0.out HB.out)|(with_reducible refine Kd.C_alloc ?_ _)|(with_reducible refine Kd.C_drewN ?_ _)|(with_reducible refine Kd.C_drew ?_)));(case side2=>exact HC0.out);rintro e w34 ⟨v153,rfl,ho0,hb⟩;refine ⟨_,rfl,?_⟩;have n0_:=Aside0.mk (Kd.R_lower (Kd.R_newB ho0 (g:=gb150) (o:=.cells #[.int .i64 a1_0,.int .i64 a1_1] 30 (0,0)) (by (with_reducible repeat (first|refine kn_ ?_ _|refine kd_ ?_|refine ka_ ?_ _));exact BK150.out)) (below_size (by repeat (first|(with_reducible first|exact HB.out|apply ba_|apply bn_|apply bd_|refine below_set ?_ GE150.out)|exact HB.out))));have n1_:=Aside0.mk (blk_below (g:=gb150) (o:=.cells #[.int .i64 a1_0,.int .i64 a1_1] 30 (0,0)) (by (with_reducible repeat (first|refine kn_ ?_ _|refine kd_ ?_|refine ka_ ?_ _));exact BK150.out) hb);have n2_:=Aside0.mk (below_step (by repeat (first|(with_reducible first|exact HB.out|apply ba_|apply bn_|apply bd_|refine below_set ?_ GE150.out)|exact HB.out)) hb);clear BK150;clear HB;have HO154:=n0_;have BK150:=n1_;have HB:=n2_;clear n0_ n1_ n2_;(try clear hb);(try clear hb2);(try clear hk);(try clear hi);(try clear ho0);have hcz35_0 : w34.cell? ⟨gb150,0,none⟩ = some (.int .i64 a1_0):=(blk_cell BK150.out 0).trans rfl;have hcz35_1 : w34.cell? ⟨gb150,1,none⟩ = some (.int .i64 a1_1):=(blk_cell BK150.out 1).trans rfl;have hfz35_0:=blk_frozen BK150.out 0;have hfz35_1:=blk_frozen BK150.out 1)|((with_reducible refine gate_callee (f:=29) rfl ?_);refine goesL_ (some 19) rfl rfl Try.func29 (by kernel_rfl) rfl #[.agg #[.int .i64 a1_0,.int .i64 a1_1]] rfl (by (try simp only [List.map_toArray,List.map_cons,List.map_nil]);first|done|rfl|(simp only [List.length_drop,List.length_take];rfl)) ?_;(with_reducible refine (convex_near.calls a1_0 a1_1 false _ A5.out).mono ?_);rintro e w36 ⟨rfl,hb⟩;refine ⟨_,rfl,?_⟩;have n0_:=Aside0.mk (Kd.R_below (by (with_reducible repeat (first|apply ra_|apply rn_|apply rd_));exact HO154.out) hb);have n1_:=Aside0.mk (blk_below (g:=gb150) (o:=.cells #[.int .i64 a1_0,.int .i64 a1_1] 30 (0,0)) (by (with_reducible repeat (first|refine kn_ ?_ _|refine kd_ ?_|refine ka_ ?_ _));exact BK150.out) hb);have n2_:=Aside0.mk (below_step (by repeat (first|(with_reducible first|exact HB.out|apply ba_|apply bn_|apply bd_|refine below_set ?_ GE150.out)|exact HB.out)) hb);clear HO154;clear BK150;clear HB;have HO154:=n0_;have BK150:=n1_;have HB:=n2_;clear n0_ n1_ n2_;(try clear hb);(try clear hb2);(try clear hk);(try clear hi)))
  go_ret2
  exact ⟨by first|rfl|(simp [errW_none,errW_some] <;> rfl)|(simp [*,errW_none,errW_some] <;> rfl),by repeat (first|(with_reducible first|exact HB.out|apply ba_|apply bn_|apply bd_|refine below_set ?_ GE150.out)|exact HB.out)⟩
 rw [if_neg c4] at H
 have c4b0 : (t152 == 0) = false:=beq_eq_false_iff_ne.mpr c4
 have c4b1 : (t152 != 0) = true:=bne_iff_ne.mpr c4
 simp only [Option.some.injEq,Prod.mk.injEq] at H
 obtain ⟨rfl,rfl⟩:=H
 go_enter Try.func14,Try.ntmps14
 go_wp2_with (first|((with_reducible refine gate_dst (N:=3) rfl ?_);refine box_event ?hg (N:=3) ?hd (cs:=#[.int .i64 a1_0,.int .i64 a1_1]) (t:=30) ?hr ?_;(case hd=>rfl);(case hg=>rfl);(case hr=>first|(go_simp;done)|(go_simp;rfl));intro gb150 hg w37 hbox hb;have n0_:=Aside0.mk (below_step (by repeat (first|(with_reducible first|exact HB.out|apply ba_|apply bn_|apply bd_)|exact HB.out)) hb);have n1_:=Aside0.mk (hbox);have n2_:=Aside0.mk ((by rw [hg];exact (below_size (by repeat (first|(with_reducible first|exact HB.out|apply ba_|apply bn_|apply bd_)|exact HB.out))) : w.heap.size ≤ gb150));have n3_:=Aside0.mk ((by rw [hg];exact (below_size (by repeat (first|(with_reducible first|exact HB.out|apply ba_|apply bn_|apply bd_)|exact HB.out))) : w.heap.size ≤ gb150));clear HB;have HB:=n0_;have BK150:=n1_;have GW150:=n2_;have GE150:=n3_;clear n0_ n1_ n2_ n3_;clear hb hbox hg)|((with_reducible refine gate_callee (f:=11) rfl ?_);refine goesL_ (some 12) rfl rfl Try.func11 (by kernel_rfl) rfl #[.slice A0 l0.length c0] rfl (by (try simp only [List.map_toArray,List.map_cons,List.map_nil]);first|done|rfl|(simp only [List.length_drop,List.length_take];rfl)) ?_;(with_reducible refine (convex_Hull.calls k _ _ l0 t151 t152 _ ?side1 ?side2 A3.out).mono ?_);(case side1=>repeat (first|exact (Kd.C_below HR0.out HB.out)|(with_reducible refine Kd.C_alloc ?_ _)|(with_reducible refine Kd.C_drewN ?_ _)|(with_reducible refine Kd.C_drew ?_)));(case side2=>exact HC0.out);rintro e w38 ⟨v153,rfl,ho0,hb⟩;refine ⟨_,rfl,?_⟩;have n0_:=Aside0.mk (Kd.R_lower (Kd.R_newB ho0 (g:=gb150) (o:=.cells #[.int .i64 a1_0,.int .i64 a1_1] 30 (0,0)) (by (with_reducible repeat (first|refine kn_ ?_ _|refine kd_ ?_|refine ka_ ?_ _));exact BK150.out)) (below_size (by repeat (first|(with_reducible first|exact HB.out|apply ba_|apply bn_|apply bd_|refine below_set ?_ GE150.out)|exact HB.out))));have n1_:=Aside0.mk (blk_below (g:=gb150) (o:=.cells #[.int .i64 a1_0,.int .i64 a1_1] 30 (0,0)) (by (with_reducible repeat (first|refine kn_ ?_ _|refine kd_ ?_|refine ka_ ?_ _));exact BK150.out) hb);have n2_:=Aside0.mk (below_step (by repeat (first|(with_reducible first|exact HB.out|apply ba_|apply bn_|apply bd_|refine below_set ?_ GE150.out)|exact HB.out)) hb);clear BK150;clear HB;have HO154:=n0_;have BK150:=n1_;have HB:=n2_;clear n0_ n1_ n2_;(try clear hb);(try clear hb2);(try clear hk);(try clear hi);(try clear ho0)))
 go_ret2
 exact ⟨by first|rfl|(simp [errW_none,errW_some] <;> rfl)|(simp [*,errW_none,errW_some] <;> rfl),by repeat (first|(with_reducible first|exact HB.out|apply ba_|apply bn_|apply bd_|refine below_set ?_ GE150.out)|exact HB.out)⟩

end Go.Proofs.Ytlnigbhimdphoaa.C
