-- PRINTED by print.py (a twelfth state) out of the translation. Not trusted: Lean checks it.
import Derived.Test.YtlnigbhimdphoaaCx0
import Derived.Test.YtlnigbhimdphoaaCx4
import Derived.Test.YtlnigbhimdphoaaCx5
import Derived.Test.YtlnigbhimdphoaaCx6
import Derived.Test.YtlnigbhimdphoaaCx7
import Derived.Test.YtlnigbhimdphoaaCx10
import Derived.Test.YtlnigbhimdphoaaCx16
import Derived.Test.YtlnigbhimdphoaaCx17
namespace Go.Proofs.Ytlnigbhimdphoaa.C
open Go.RowKit Go.Proofs.YtlnigbhimdphoaaW.PrintWords Go.Proofs.YtlnigbhimdphoaaW.PrintLast Go.Proofs.YtlnigbhimdphoaaW.PrintMore
attribute [local go_sem] max2_int min2_int max_two min_two max_three min_three max_four min_four Go.Proofs.Ytlnigbhimdphoaa.Aid.isSome_setCell   -- for this text's walks alone
set_option linter.unusedVariables false
set_option linter.unusedSimpArgs false

/-! ### garmentlaw14_ConvexInsides: function 4 -/
def garmentlaw14_ConvexInsides.f (k : Nat) (l0 : List (S30)) (a1_0 : Int) (a1_1 : Int) : Option (Bool):=if (l0.length : Int) > 170 then ((garmentlaw14_awake.f k).bind fun t340=>(some t340)) else ((convex_Inside.f k l0 a1_0 a1_1).bind fun bt341=>((garmentref14_Inside.f k l0 a1_0 a1_1).bind fun bt343=>(if (bt341.1 == bt343.1) = true then (if bt341.2 = bt343.2 then ((convex_Negate.f k l0).bind fun t345=>((garmentref14_Negate.f k l0).bind fun t348=>((garmentref11_Same.f k t345 t348).bind fun t351=>(if t351 = true then ((convex_Support.f k l0 a1_0 a1_1).bind fun t352=>((garmentref14_Support.f k l0 a1_0 a1_1).bind fun t353=>(if t352 = t353 then ((garmentlaw14_awake.f k).bind fun t354=>(some t354)) else (some false)))) else (some false))))) else (some false)) else (some false))))
theorem garmentlaw14_ConvexInsides.mono : ∀ a0 a1 a2 k,LeO (garmentlaw14_ConvexInsides.f k a0 a1 a2) (garmentlaw14_ConvexInsides.f (k + 1) a0 a1 a2):=by
 intro a0 a1 a2 k
 unfold garmentlaw14_ConvexInsides.f
 repeat' first
   | (with_reducible exact convex_Inside.mono _ _ _ _)
   | (with_reducible exact convex_Negate.mono _ _)
   | (with_reducible exact convex_Support.mono _ _ _ _)
   | (with_reducible exact garmentlaw14_awake.mono _)
   | (with_reducible exact garmentref11_Same.mono _ _ _)
   | (with_reducible exact garmentref14_Inside.mono _ _ _ _)
   | (with_reducible exact garmentref14_Negate.mono _ _)
   | (with_reducible exact garmentref14_Support.mono _ _ _ _)
   | (with_reducible exact LeO.refl _)
   | (with_reducible exact LeO.none _)
   | (with_reducible refine LeO.ite ?_ ?_)
   | (with_reducible refine LeO.bind ?_ (fun _=>?_))
   | exact convex_Inside.mono _ _ _ _
   | exact convex_Negate.mono _ _
   | exact convex_Support.mono _ _ _ _
   | exact garmentlaw14_awake.mono _
   | exact garmentref11_Same.mono _ _ _
   | exact garmentref14_Inside.mono _ _ _ _
   | exact garmentref14_Negate.mono _ _
   | exact garmentref14_Support.mono _ _ _ _
   | exact LeO.none _
   | refine LeO.ite ?_ ?_
   | refine LeO.bind ?_ (fun _=>?_)
def garmentlaw14_ConvexInsides.T5 : Bool × List (List Nat × List Nat):=(true,[([],[]),([],[]),([0,1],[0,1]),([2],[2]),([3],[3]),([3],[3]),([4,5,3],[3,4,5]),([3,6],[3,6]),([7,3],[7]),([8],[8]),([9,8,8],[8,9]),([8],[8]),([11,10,8],[8,11]),([10,12,12,8],[8,10,12]),([8,13],[8,13]),([14,13],[14]),([15],[15]),([15],[15]),([16,17,15,15],[15,16,17]),([15],[15]),([15],[15]),([19,20,18,15],[15,19,20]),([18,21,15],[15,18,21]),([15,22],[15,22]),([23,21],[23]),([24,24],[24]),([24,25],[24,25]),([26,25,0,1,2,3,4,5,6,7,8,9,10,11,12,13,14,15,16,17,18,19,20,21,22,23,24,25,26],[26])])
def garmentlaw14_ConvexInsides.B5 : List Nat:=[0,0,3,7,15,15,63,127,255,511,1023,511,4095,8191,16383,32767,65535,65535,262143,65535,65535,2097151,4194303,8388607,16777215,33554431,67108863,134217727]
theorem garmentlaw14_ConvexInsides.tab5 : rtab .any (opsOf Try.f4 5) = garmentlaw14_ConvexInsides.T5:=by kernel_rfl
theorem garmentlaw14_ConvexInsides.bits5 : waitsOk garmentlaw14_ConvexInsides.T5.2 garmentlaw14_ConvexInsides.B5 = true:=by kernel_rfl
set_option maxHeartbeats 8000000 in
set_option maxRecDepth 100000 in
theorem garmentlaw14_ConvexInsides.calls (k : Nat) (A0 : Option Addr) (c0 : Nat) (l0 : List (S30)) (a1_0 : Int) (a1_1 : Int) (r : Bool) (w : World) (hr0 : Kd.C k30 w A0 l0.length l0) (hc0 : l0.length ≤ c0) (h : garmentlaw14_ConvexInsides.f k l0 a1_0 a1_1 = some r) :
  Calls Try.prog 4 #[.slice A0 l0.length c0,.agg #[.int .i64 a1_0,.int .i64 a1_1]] w fun e w'=>e = .returned (.bool r)∧Below w.heap.size w w':=by
 have hu30:=Try.underlying30
 have HR0:=Aside0.mk hr0
 have HC0:=Aside0.mk hc0
 clear hr0 hc0
 have HB:=Aside0.mk (Below.refl w.heap.size w)
 have H : (if (l0.length : Int) > 170 then ((garmentlaw14_awake.f k).bind fun t340=>(some t340)) else ((convex_Inside.f k l0 a1_0 a1_1).bind fun bt341=>((garmentref14_Inside.f k l0 a1_0 a1_1).bind fun bt343=>(if (bt341.1 == bt343.1) = true then (if bt341.2 = bt343.2 then ((convex_Negate.f k l0).bind fun t345=>((garmentref14_Negate.f k l0).bind fun t348=>((garmentref11_Same.f k t345 t348).bind fun t351=>(if t351 = true then ((convex_Support.f k l0 a1_0 a1_1).bind fun t352=>((garmentref14_Support.f k l0 a1_0 a1_1).bind fun t353=>(if t352 = t353 then ((garmentlaw14_awake.f k).bind fun t354=>(some t354)) else (some false)))) else (some false))))) else (some false)) else (some false))))) = some r:=h
 clear h
 by_cases c3 : (l0.length : Int) > 170
 ·
  rw [if_pos c3] at H
  have c3b0 : decide (170 < (l0.length : Int)) = true:=decide_eq_true c3
  have c3b1 : decide (170 < l0.length) = true:=decide_eq_true (by omega)
  clear c3
  replace H:=Option.bind_eq_some_iff.mp H
  obtain ⟨t340,A40,H⟩:=H
  replace H : (some t340) = some r:=H
  have A4:=Aside0.mk A40
  clear A40
  obtain rfl:=Option.some.inj H
  go_enter Try.func4,Try.ntmps4
  go_wp2_with (first|((with_reducible refine gate_dst (N:=3) rfl ?_);refine box_event ?hg (N:=3) ?hd (cs:=#[.int .i64 a1_0,.int .i64 a1_1]) (t:=30) ?hr ?_;(case hd=>rfl);(case hg=>rfl);(case hr=>first|(go_simp;done)|(go_simp;rfl));intro gb339 hg w5 hbox hb;have n0_:=Aside0.mk (below_step (by repeat (first|(with_reducible first|exact HB.out|apply ba_|apply bn_|apply bd_)|exact HB.out)) hb);have n1_:=Aside0.mk (hbox);have n2_:=Aside0.mk ((by rw [hg];exact (below_size (by repeat (first|(with_reducible first|exact HB.out|apply ba_|apply bn_|apply bd_)|exact HB.out))) : w.heap.size ≤ gb339));have n3_:=Aside0.mk ((by rw [hg];exact (below_size (by repeat (first|(with_reducible first|exact HB.out|apply ba_|apply bn_|apply bd_)|exact HB.out))) : w.heap.size ≤ gb339));clear HB;have HB:=n0_;have BK339:=n1_;have GW339:=n2_;have GE339:=n3_;clear n0_ n1_ n2_ n3_;clear hb hbox hg)|((with_reducible refine gate_callee (f:=10) rfl ?_);refine goesL_ (some 12) rfl rfl Try.func10 (by kernel_rfl) rfl #[] rfl (by (try simp only [List.map_toArray,List.map_cons,List.map_nil]);first|done|rfl|(simp only [List.length_drop,List.length_take];rfl)) ?_;(with_reducible refine (garmentlaw14_awake.calls k  t340 _ A4.out).mono ?_);rintro e w6 ⟨rfl,hb⟩;refine ⟨_,rfl,?_⟩;have n0_:=Aside0.mk (blk_below (g:=gb339) (o:=.cells #[.int .i64 a1_0,.int .i64 a1_1] 30 (0,0)) (by (with_reducible repeat (first|refine kn_ ?_ _|refine kd_ ?_|refine ka_ ?_ _));exact BK339.out) hb);have n1_:=Aside0.mk (below_step (by repeat (first|(with_reducible first|exact HB.out|apply ba_|apply bn_|apply bd_|refine below_set ?_ GE339.out)|exact HB.out)) hb);clear BK339;clear HB;have BK339:=n0_;have HB:=n1_;clear n0_ n1_;(try clear hb);(try clear hb2);(try clear hk);(try clear hi)))
  go_ret
  exact ⟨by first|rfl|(simp [errW_none,errW_some] <;> rfl)|(simp [*,errW_none,errW_some] <;> rfl),by repeat (first|(with_reducible first|exact HB.out|apply ba_|apply bn_|apply bd_|refine below_set ?_ GE339.out)|exact HB.out)⟩
 rw [if_neg c3] at H
 have c3b0 : decide (170 < (l0.length : Int)) = false:=decide_eq_false c3
 have c3b1 : decide (170 < l0.length) = false:=decide_eq_false (by omega)
 clear c3
 replace H:=Option.bind_eq_some_iff.mp H
 obtain ⟨⟨t341,t342⟩,A70,H⟩:=H
 replace H : ((garmentref14_Inside.f k l0 a1_0 a1_1).bind fun bt343=>(if (t341 == bt343.1) = true then (if t342 = bt343.2 then ((convex_Negate.f k l0).bind fun t345=>((garmentref14_Negate.f k l0).bind fun t348=>((garmentref11_Same.f k t345 t348).bind fun t351=>(if t351 = true then ((convex_Support.f k l0 a1_0 a1_1).bind fun t352=>((garmentref14_Support.f k l0 a1_0 a1_1).bind fun t353=>(if t352 = t353 then ((garmentlaw14_awake.f k).bind fun t354=>(some t354)) else (some false)))) else (some false))))) else (some false)) else (some false))) = some r:=H
 have A7:=Aside0.mk A70
 clear A70
 replace H:=Option.bind_eq_some_iff.mp H
 obtain ⟨⟨t343,t344⟩,A80,H⟩:=H
 replace H : (if (t341 == t343) = true then (if t342 = t344 then ((convex_Negate.f k l0).bind fun t345=>((garmentref14_Negate.f k l0).bind fun t348=>((garmentref11_Same.f k t345 t348).bind fun t351=>(if t351 = true then ((convex_Support.f k l0 a1_0 a1_1).bind fun t352=>((garmentref14_Support.f k l0 a1_0 a1_1).bind fun t353=>(if t352 = t353 then ((garmentlaw14_awake.f k).bind fun t354=>(some t354)) else (some false)))) else (some false))))) else (some false)) else (some false)) = some r:=H
 have A8:=Aside0.mk A80
 clear A80
 by_cases c9 : (t341 == t343) = true
 ·
  rw [if_pos c9] at H
  have c9b0 : (t341 == t343) = true:=c9
  (try (have c9b1 : decide (t341 = t343) = true:=by simpa using c9))
  (try (have c9b2 : (t341 == t343) = true:=by simpa using c9))
  clear c9
  by_cases c10 : t342 = t344
  ·
   rw [if_pos c10] at H
   have c10b0 : (t342 == t344) = true:=beq_iff_eq.mpr c10
   have c10b1 : (t342 != t344) = false:=bne_eq_false_iff_eq.mpr c10
   clear c10
   replace H:=Option.bind_eq_some_iff.mp H
   obtain ⟨t345,A110,H⟩:=H
   replace H : ((garmentref14_Negate.f k l0).bind fun t348=>((garmentref11_Same.f k t345 t348).bind fun t351=>(if t351 = true then ((convex_Support.f k l0 a1_0 a1_1).bind fun t352=>((garmentref14_Support.f k l0 a1_0 a1_1).bind fun t353=>(if t352 = t353 then ((garmentlaw14_awake.f k).bind fun t354=>(some t354)) else (some false)))) else (some false)))) = some r:=H
   have A11:=Aside0.mk A110
   clear A110
   replace H:=Option.bind_eq_some_iff.mp H
   obtain ⟨t348,A120,H⟩:=H
   replace H : ((garmentref11_Same.f k t345 t348).bind fun t351=>(if t351 = true then ((convex_Support.f k l0 a1_0 a1_1).bind fun t352=>((garmentref14_Support.f k l0 a1_0 a1_1).bind fun t353=>(if t352 = t353 then ((garmentlaw14_awake.f k).bind fun t354=>(some t354)) else (some false)))) else (some false))) = some r:=H
   have A12:=Aside0.mk A120
   clear A120
   replace H:=Option.bind_eq_some_iff.mp H
   obtain ⟨t351,A130,H⟩:=H
   replace H : (if t351 = true then ((convex_Support.f k l0 a1_0 a1_1).bind fun t352=>((garmentref14_Support.f k l0 a1_0 a1_1).bind fun t353=>(if t352 = t353 then ((garmentlaw14_awake.f k).bind fun t354=>(some t354)) else (some false)))) else (some false)) = some r:=H
   have A13:=Aside0.mk A130
   clear A130
   by_cases c14 : t351 = true
   ·
    subst c14
    have H1 : ((convex_Support.f k l0 a1_0 a1_1).bind fun t352=>((garmentref14_Support.f k l0 a1_0 a1_1).bind fun t353=>(if t352 = t353 then ((garmentlaw14_awake.f k).bind fun t354=>(some t354)) else (some false)))) = some r:=by rw [if_pos rfl] at H;exact H
    clear H
    have H:=H1
    clear H1
    replace H:=Option.bind_eq_some_iff.mp H
    obtain ⟨t352,A150,H⟩:=H
    replace H : ((garmentref14_Support.f k l0 a1_0 a1_1).bind fun t353=>(if t352 = t353 then ((garmentlaw14_awake.f k).bind fun t354=>(some t354)) else (some false))) = some r:=H
    have A15:=Aside0.mk A150
    clear A150
    replace H:=Option.bind_eq_some_iff.mp H
    obtain ⟨t353,A160,H⟩:=H
    replace H : (if t352 = t353 then ((garmentlaw14_awake.f k).bind fun t354=>(some t354)) else (some false)) = some r:=H
    have A16:=Aside0.mk A160
    clear A160
    by_cases c17 : t352 = t353
    ·
     rw [if_pos c17] at H
     have c17b0 : (t352 == t353) = true:=beq_iff_eq.mpr c17
     have c17b1 : (t352 != t353) = false:=bne_eq_false_iff_eq.mpr c17
     clear c17
     replace H:=Option.bind_eq_some_iff.mp H
     obtain ⟨t354,A180,H⟩:=H
     replace H : (some t354) = some r:=H
     have A18:=Aside0.mk A180
     clear A180
     obtain rfl:=Option.some.inj H
     go_enter Try.func4,Try.ntmps4
     try go_wp2_with (first|((with_reducible refine gate_dst (N:=3) rfl ?_);refine box_event ?hg (N:=3) ?hd (cs:=#[.int .i64 a1_0,.int .i64 a1_1]) (t:=30) ?hr ?_;(case hd=>rfl);(case hg=>rfl);(case hr=>first|(go_simp;done)|(go_simp;rfl));intro gb339 hg w19 hbox hb;have n0_:=Aside0.mk (below_step (by repeat (first|(with_reducible first|exact HB.out|apply ba_|apply bn_|apply bd_)|exact HB.out)) hb);have n1_:=Aside0.mk (hbox);have n2_:=Aside0.mk ((by rw [hg];exact (below_size (by repeat (first|(with_reducible first|exact HB.out|apply ba_|apply bn_|apply bd_)|exact HB.out))) : w.heap.size ≤ gb339));have n3_:=Aside0.mk ((by rw [hg];exact (below_size (by repeat (first|(with_reducible first|exact HB.out|apply ba_|apply bn_|apply bd_)|exact HB.out))) : w.heap.size ≤ gb339));clear HB;have HB:=n0_;have BK339:=n1_;have GW339:=n2_;have GE339:=n3_;clear n0_ n1_ n2_ n3_;clear hb hbox hg;have hcz20_0 : w19.cell? ⟨gb339,0,none⟩ = some (.int .i64 a1_0):=(blk_cell BK339.out 0).trans rfl;have hcz20_1 : w19.cell? ⟨gb339,1,none⟩ = some (.int .i64 a1_1):=(blk_cell BK339.out 1).trans rfl;have hfz20_0:=blk_frozen BK339.out 0;have hfz20_1:=blk_frozen BK339.out 1)|((with_reducible refine gate_callee (f:=14) rfl ?_);refine goesL_ (some 16) rfl rfl Try.func14 (by kernel_rfl) rfl #[.slice A0 l0.length c0,.agg #[.int .i64 a1_0,.int .i64 a1_1]] rfl (by (try simp only [List.map_toArray,List.map_cons,List.map_nil]);first|done|rfl|(simp only [List.length_drop,List.length_take];rfl)) ?_;(with_reducible refine (convex_Inside.calls k _ _ l0 a1_0 a1_1 t341 t342 _ ?side1 ?side2 A7.out).mono ?_);(case side1=>repeat (first|exact (Kd.C_below HR0.out HB.out)|(with_reducible refine Kd.C_alloc ?_ _)|(with_reducible refine Kd.C_drewN ?_ _)|(with_reducible refine Kd.C_drew ?_)));(case side2=>exact HC0.out);rintro e w21 ⟨rfl,hb⟩;refine ⟨_,rfl,?_⟩;have n0_:=Aside0.mk (blk_below (g:=gb339) (o:=.cells #[.int .i64 a1_0,.int .i64 a1_1] 30 (0,0)) (by (with_reducible repeat (first|refine kn_ ?_ _|refine kd_ ?_|refine ka_ ?_ _));exact BK339.out) hb);have n1_:=Aside0.mk (below_step (by repeat (first|(with_reducible first|exact HB.out|apply ba_|apply bn_|apply bd_|refine below_set ?_ GE339.out)|exact HB.out)) hb);clear BK339;clear HB;have BK339:=n0_;have HB:=n1_;clear n0_ n1_;(try clear hb);(try clear hb2);(try clear hk);(try clear hi);have hcz22_0 : w21.cell? ⟨gb339,0,none⟩ = some (.int .i64 a1_0):=(blk_cell BK339.out 0).trans rfl;have hcz22_1 : w21.cell? ⟨gb339,1,none⟩ = some (.int .i64 a1_1):=(blk_cell BK339.out 1).trans rfl;have hfz22_0:=blk_frozen BK339.out 0;have hfz22_1:=blk_frozen BK339.out 1)|((with_reducible refine gate_callee (f:=15) rfl ?_);refine goesL_ (some 22) rfl rfl Try.func15 (by kernel_rfl) rfl #[.slice A0 l0.length c0,.agg #[.int .i64 a1_0,.int .i64 a1_1]] rfl (by (try simp only [List.map_toArray,List.map_cons,List.map_nil]);first|done|rfl|(simp only [List.length_drop,List.length_take];rfl)) ?_;(with_reducible refine (garmentref14_Inside.calls k _ _ l0 a1_0 a1_1 t343 t344 _ ?side1 ?side2 A8.out).mono ?_);(case side1=>repeat (first|exact (Kd.C_below HR0.out HB.out)|(with_reducible refine Kd.C_alloc ?_ _)|(with_reducible refine Kd.C_drewN ?_ _)|(with_reducible refine Kd.C_drew ?_)));(case side2=>exact HC0.out);rintro e w23 ⟨rfl,hb⟩;refine ⟨_,rfl,?_⟩;have n0_:=Aside0.mk (blk_below (g:=gb339) (o:=.cells #[.int .i64 a1_0,.int .i64 a1_1] 30 (0,0)) (by (with_reducible repeat (first|refine kn_ ?_ _|refine kd_ ?_|refine ka_ ?_ _));exact BK339.out) hb);have n1_:=Aside0.mk (below_step (by repeat (first|(with_reducible first|exact HB.out|apply ba_|apply bn_|apply bd_|refine below_set ?_ GE339.out)|exact HB.out)) hb);clear BK339;clear HB;have BK339:=n0_;have HB:=n1_;clear n0_ n1_;(try clear hb);(try clear hb2);(try clear hk);(try clear hi)))
     have n0_:=Aside0.mk (kd_ BK339.out)
     have n1_:=Aside0.mk (bd_ HB.out)
     clear BK339
     clear HB
     have BK339:=n0_
     have HB:=n1_
     clear n0_ n1_
     refine start_ (n:=28) (S:=fun w'=>w'.cell? ⟨gb339,0,none⟩ = some (.int .i64 a1_0)∧w'.cell? ⟨gb339,1,none⟩ = some (.int .i64 a1_1)) (ds:=[]) #[false,false,false,false,false,false,false,false,false,false,false,false,false,false,false,false,false,false,false,false,false,false,false,false,false,false,false,false] (by kernel_rfl) rfl rfl ⟨(blk_cell BK339.out 0).trans rfl,(blk_cell BK339.out 1).trans rfl⟩ (fun hHeld=>?_);refine with_tabW garmentlaw14_ConvexInsides.tab5 garmentlaw14_ConvexInsides.bits5 (fun HT_ HW_=>?_)
     generalize w23.drew = w24 at BK339 HB hHeld ⊢
     refine pure_ (i:=0) (N:=some 25) (v:=?_) (a':=?_) #[true,false,false,false,false,false,false,false,false,false,false,false,false,false,false,false,false,false,false,false,false,false,false,false,false,false,false,false] rfl rfl (any_of HT_.out (by kernel_rfl)) (fun _ _ _ h=>h) (Or.inl ⟨by rfl,?_⟩) ?_ ?_
     rotate_left
     ·
      intro w'
      go_simp
      with_reducible rfl
     rotate_left
     ·
      simp only [Act.put,la_,l0_,l1_,i64_w,i32_w]
      rfl
     refine pure_ (i:=1) (N:=some 26) (v:=?_) (a':=?_) #[true,true,false,false,false,false,false,false,false,false,false,false,false,false,false,false,false,false,false,false,false,false,false,false,false,false,false,false] rfl rfl (any_of HT_.out (by kernel_rfl)) (fun _ _ _ h=>h) (Or.inl ⟨by rfl,?_⟩) ?_ ?_
     rotate_left
     ·
      intro w'
      go_simp
      with_reducible rfl
     rotate_left
     ·
      simp only [Act.put,la_,l0_,l1_,i64_w,i32_w]
      rfl
     refine pure_ (i:=2) (N:=some 27) (v:=?_) (a':=?_) #[true,true,true,false,false,false,false,false,false,false,false,false,false,false,false,false,false,false,false,false,false,false,false,false,false,false,false,false] rfl rfl (any_of HT_.out (by kernel_rfl)) (fun _ _ _ h=>h) (Or.inl ⟨by rfl,?_⟩) ?_ ?_
     rotate_left
     ·
      intro w'
      go_simp
      with_reducible rfl
     rotate_left
     ·
      simp only [Act.put,la_,l0_,l1_,i64_w,i32_w]
      rfl
     refine pure_ (i:=3) (N:=some 28) (v:=?_) (a':=?_) #[true,true,true,true,false,false,false,false,false,false,false,false,false,false,false,false,false,false,false,false,false,false,false,false,false,false,false,false] rfl rfl (any_of HT_.out (by kernel_rfl)) (fun _ _ _ h=>h) (Or.inl ⟨by rfl,?_⟩) ?_ ?_
     rotate_left
     ·
      intro w'
      go_simp
      with_reducible rfl
     rotate_left
     ·
      simp only [Act.put,la_,l0_,l1_,i64_w,i32_w]
      rfl
     refine pure_ (i:=4) (N:=some 29) (v:=?_) (a':=?_) #[true,true,true,true,true,false,false,false,false,false,false,false,false,false,false,false,false,false,false,false,false,false,false,false,false,false,false,false] rfl rfl (any_of HT_.out (by kernel_rfl)) (fun _ _ _ h=>h) (Or.inl ⟨by rfl,?_⟩) ?_ ?_
     rotate_left
     ·
      intro w'
      go_simp
      with_reducible rfl
     rotate_left
     ·
      simp only [Act.put,la_,l0_,l1_,i64_w,i32_w]
      rfl
     refine pure_ (i:=5) (N:=some 30) (v:=?_) (a':=?_) #[true,true,true,true,true,true,false,false,false,false,false,false,false,false,false,false,false,false,false,false,false,false,false,false,false,false,false,false] rfl rfl (any_of HT_.out (by kernel_rfl)) (fun _ _ _ h=>h) (Or.inl ⟨by rfl,?_⟩) ?_ ?_
     rotate_left
     ·
      intro w'
      go_simp
      with_reducible rfl
     rotate_left
     ·
      simp only [Act.put,la_,l0_,l1_,i64_w,i32_w]
      rfl
     refine pure_ (i:=6) (N:=some 31) (v:=?_) (a':=?_) #[true,true,true,true,true,true,true,false,false,false,false,false,false,false,false,false,false,false,false,false,false,false,false,false,false,false,false,false] rfl rfl (any_of HT_.out (by kernel_rfl)) (fun _ _ _ h=>h) (Or.inl ⟨by rfl,?_⟩) ?_ ?_
     rotate_left
     ·
      intro w'
      go_simp
      with_reducible rfl
     rotate_left
     ·
      simp only [Act.put,la_,l0_,l1_,i64_w,i32_w]
      rfl
     refine pure_ (i:=7) (N:=some 32) (v:=?_) (a':=?_) #[true,true,true,true,true,true,true,true,false,false,false,false,false,false,false,false,false,false,false,false,false,false,false,false,false,false,false,false] rfl rfl (any_of HT_.out (by kernel_rfl)) (fun _ _ _ h=>h) (Or.inl ⟨by rfl,?_⟩) ?_ ?_
     rotate_left
     ·
      intro w'
      go_simp
      with_reducible rfl
     rotate_left
     ·
      simp only [Act.put,la_,l0_,l1_,i64_w,i32_w]
      rfl
     refine pure_ (i:=8) (N:=some 33) (v:=?_) (a':=?_) #[true,true,true,true,true,true,true,true,true,false,false,false,false,false,false,false,false,false,false,false,false,false,false,false,false,false,false,false] rfl rfl (any_of HT_.out (by kernel_rfl)) (fun _ _ _ h=>h) (Or.inl ⟨by rfl,?_⟩) ?_ ?_
     rotate_left
     ·
      intro w'
      go_simp
      with_reducible rfl
     rotate_left
     ·
      simp only [Act.put,la_,l0_,l1_,i64_w,i32_w]
      rfl
     refine pure_ (i:=9) (N:=some 34) (v:=?_) (a':=?_) #[true,true,true,true,true,true,true,true,true,true,false,false,false,false,false,false,false,false,false,false,false,false,false,false,false,false,false,false] rfl rfl (any_of HT_.out (by kernel_rfl)) (fun _ _ _ h=>h) (Or.inl ⟨by rfl,?_⟩) ?_ ?_
     rotate_left
     ·
      intro w'
      go_simp
      with_reducible rfl
     rotate_left
     ·
      simp only [Act.put,la_,l0_,l1_,i64_w,i32_w]
      rfl
     refine pure_ (i:=11) (N:=some 36) (v:=?_) (a':=?_) #[true,true,true,true,true,true,true,true,true,true,false,true,false,false,false,false,false,false,false,false,false,false,false,false,false,false,false,false] rfl rfl (any_of HT_.out (by kernel_rfl)) (fun _ _ _ h=>h) (Or.inl ⟨by rfl,?_⟩) ?_ ?_
     rotate_left
     ·
      intro w'
      go_simp
      with_reducible rfl
     rotate_left
     ·
      simp only [Act.put,la_,l0_,l1_,i64_w,i32_w]
      rfl
     refine one_ (i:=10) (N:=some 35) #[true,true,true,true,true,true,true,true,true,true,true,true,false,false,false,false,false,false,false,false,false,false,false,false,false,false,false,false] rfl rfl (one_of HT_.out (by kernel_rfl)) (by decide) (fun K hK=>?_)
     refine goes_ Try.func16 (by kernel_rfl) rfl #[.slice A0 l0.length c0] (by rfl) rfl rfl (by (try simp only [List.map_toArray,List.map_cons,List.map_nil]);first|done|rfl|(simp only [List.length_drop,List.length_take];rfl)) ?_
     with_reducible refine (convex_Negate.calls k _ _ l0 t345 _ ?side1 ?side2 A11.out).mono ?_
     (case side1=>repeat (first|exact (Kd.C_below HR0.out HB.out)|(with_reducible refine Kd.C_alloc ?_ _)|(with_reducible refine Kd.C_drewN ?_ _)|(with_reducible refine Kd.C_drew ?_)))
     (case side2=>exact HC0.out)
     rintro e w25 ⟨v346,rfl,ho0,hb⟩
     refine ⟨_,rfl,?_⟩
     have n0_:=Aside0.mk (Kd.R_lower (Kd.R_newB ho0 (g:=gb339) (o:=.cells #[.int .i64 a1_0,.int .i64 a1_1] 30 (0,0)) (by (with_reducible repeat (first|refine kn_ ?_ _|refine kd_ ?_|refine ka_ ?_ _));exact BK339.out)) (below_size (by repeat (first|(with_reducible first|exact HB.out|apply ba_|apply bn_|apply bd_|refine below_set ?_ GE339.out)|exact HB.out))))
     have n1_:=Aside0.mk (blk_below (g:=gb339) (o:=.cells #[.int .i64 a1_0,.int .i64 a1_1] 30 (0,0)) (by (with_reducible repeat (first|refine kn_ ?_ _|refine kd_ ?_|refine ka_ ?_ _));exact BK339.out) hb)
     have n2_:=Aside0.mk (below_step (by repeat (first|(with_reducible first|exact HB.out|apply ba_|apply bn_|apply bd_|refine below_set ?_ GE339.out)|exact HB.out)) hb)
     clear BK339
     clear HB
     have HO347:=n0_
     have BK339:=n1_
     have HB:=n2_
     clear n0_ n1_ n2_
     (try clear hb)
     (try clear hb2)
     (try clear hk)
     (try clear hi)
     (try clear ho0)
     refine hK.out _ _ ⟨(blk_cell BK339.out 0).trans rfl,(blk_cell BK339.out 1).trans rfl⟩ (fun hHeld=>?_)
     clear hK K
     refine norm_ (a':=?_) ?_ ?_
     rotate_left
     ·
      show Act.put _ (some 35) _ = _
      simp only [Act.put,la_,l0_,l1_,i64_w,i32_w]
      rfl
     refine one_ (i:=12) (N:=some 37) #[true,true,true,true,true,true,true,true,true,true,true,true,true,false,false,false,false,false,false,false,false,false,false,false,false,false,false,false] rfl rfl (one_of HT_.out (by kernel_rfl)) (by decide) (fun K hK=>?_)
     refine goes_ Try.func17 (by kernel_rfl) rfl #[.slice A0 l0.length c0] (by rfl) rfl rfl (by (try simp only [List.map_toArray,List.map_cons,List.map_nil]);first|done|rfl|(simp only [List.length_drop,List.length_take];rfl)) ?_
     with_reducible refine (garmentref14_Negate.calls k _ _ l0 t348 _ ?side1 ?side2 A12.out).mono ?_
     (case side1=>repeat (first|exact (Kd.C_below HR0.out HB.out)|(with_reducible refine Kd.C_alloc ?_ _)|(with_reducible refine Kd.C_drewN ?_ _)|(with_reducible refine Kd.C_drew ?_)))
     (case side2=>exact HC0.out)
     rintro e w26 ⟨v349,rfl,ho0,hb⟩
     refine ⟨_,rfl,?_⟩
     have n0_:=Aside0.mk (Kd.R_elder' (by (with_reducible repeat (first|apply ra_|apply rn_|apply rd_));exact HO347.out) (Kd.R_base ho0) hb)
     have n1_:=Aside0.mk (Kd.R_lower (Kd.R_newB (Kd.R_new' ho0 (Kd.R_lt (by (with_reducible repeat (first|apply ra_|apply rn_|apply rd_));exact HO347.out))) (g:=gb339) (o:=.cells #[.int .i64 a1_0,.int .i64 a1_1] 30 (0,0)) (by (with_reducible repeat (first|refine kn_ ?_ _|refine kd_ ?_|refine ka_ ?_ _));exact BK339.out)) (below_size (by repeat (first|(with_reducible first|exact HB.out|apply ba_|apply bn_|apply bd_|refine below_set ?_ GE339.out)|exact HB.out))))
     have n2_:=Aside0.mk (blk_below (g:=gb339) (o:=.cells #[.int .i64 a1_0,.int .i64 a1_1] 30 (0,0)) (by (with_reducible repeat (first|refine kn_ ?_ _|refine kd_ ?_|refine ka_ ?_ _));exact BK339.out) hb)
     have n3_:=Aside0.mk (below_step (by repeat (first|(with_reducible first|exact HB.out|apply ba_|apply bn_|apply bd_|refine below_set ?_ GE339.out)|exact HB.out)) hb)
     clear HO347
     clear BK339
     clear HB
     have HO347:=n0_
     have HO350:=n1_
     have BK339:=n2_
     have HB:=n3_
     clear n0_ n1_ n2_ n3_
     (try clear hb)
     (try clear hb2)
     (try clear hk)
     (try clear hi)
     (try clear ho0)
     obtain ⟨Ao27,co27,eo27⟩:=Kd.R_slice HO347.out
     (first|subst eo27|(injection eo27 with f1_ f2_ f3_;have f4_:=f1_.symm;have f5_:=f3_.symm;clear f1_ f2_ f3_;subst f4_;subst f5_))
     obtain ⟨Ao28,co28,eo28⟩:=Kd.R_slice HO350.out
     (first|subst eo28|(injection eo28 with f1_ f2_ f3_;have f4_:=f1_.symm;have f5_:=f3_.symm;clear f1_ f2_ f3_;subst f4_;subst f5_))
     refine hK.out _ _ ⟨(blk_cell BK339.out 0).trans rfl,(blk_cell BK339.out 1).trans rfl⟩ (fun hHeld=>?_)
     clear hK K
     refine norm_ (a':=?_) ?_ ?_
     rotate_left
     ·
      show Act.put _ (some 37) _ = _
      simp only [Act.put,la_,l0_,l1_,i64_w,i32_w]
      rfl
     refine one_ (i:=13) (N:=some 38) #[true,true,true,true,true,true,true,true,true,true,true,true,true,true,false,false,false,false,false,false,false,false,false,false,false,false,false,false] rfl rfl (one_of HT_.out (by kernel_rfl)) (by decide) (fun K hK=>?_)
     refine goes_ Try.func13 (by kernel_rfl) rfl #[.slice Ao27 t345.length co27,.slice Ao28 t348.length co28] (by rfl) rfl rfl (by (try simp only [List.map_toArray,List.map_cons,List.map_nil]);first|done|rfl|(simp only [List.length_drop,List.length_take];rfl)) ?_
     with_reducible refine (garmentref11_Same.calls k _ _ t345 _ _ t348 true _ ?side1 ?side2 ?side3 ?side4 A13.out).mono ?_
     (case side1=>repeat (first|exact (Kd.R_reads' HO347.out).2.2|(with_reducible refine Kd.C_alloc ?_ _)|(with_reducible refine Kd.C_drewN ?_ _)|(with_reducible refine Kd.C_drew ?_)))
     (case side2=>exact (Kd.R_reads' HO347.out).2.1)
     (case side3=>repeat (first|exact (Kd.R_reads' HO350.out).2.2|(with_reducible refine Kd.C_alloc ?_ _)|(with_reducible refine Kd.C_drewN ?_ _)|(with_reducible refine Kd.C_drew ?_)))
     (case side4=>exact (Kd.R_reads' HO350.out).2.1)
     rintro e w' ⟨rfl,⟨nd,rfl⟩⟩
     refine ⟨_,rfl,?_⟩
     refine hK.out _ _ ⟨(blk_cell BK339.out 0).trans rfl,(blk_cell BK339.out 1).trans rfl⟩ (fun hHeld=>?_)
     clear hK K
     refine norm_ (a':=?_) ?_ ?_
     rotate_left
     ·
      show Act.put _ (some 38) _ = _
      simp only [Act.put,la_,l0_,l1_,i64_w,i32_w]
      rfl
     refine pure_ (i:=14) (N:=some 39) (v:=?_) (a':=?_) #[true,true,true,true,true,true,true,true,true,true,true,true,true,true,true,false,false,false,false,false,false,false,false,false,false,false,false,false] rfl rfl (any_of HT_.out (by kernel_rfl)) (fun _ _ _ h=>h) (Or.inl ⟨by rfl,?_⟩) ?_ ?_
     rotate_left
     ·
      intro w'
      go_simp
      with_reducible rfl
     rotate_left
     ·
      simp only [Act.put,la_,l0_,l1_,i64_w,i32_w]
      rfl
     refine pure_ (i:=15) (N:=some 40) (v:=?_) (a':=?_) #[true,true,true,true,true,true,true,true,true,true,true,true,true,true,true,true,false,false,false,false,false,false,false,false,false,false,false,false] rfl rfl (any_of HT_.out (by kernel_rfl)) (fun _ _ _ h=>h) (Or.inl ⟨by rfl,?_⟩) ?_ ?_
     rotate_left
     ·
      intro w'
      go_simp
      with_reducible rfl
     rotate_left
     ·
      simp only [Act.put,la_,l0_,l1_,i64_w,i32_w]
      rfl
     refine pure_ (i:=16) (N:=some 41) (v:=?_) (a':=?_) #[true,true,true,true,true,true,true,true,true,true,true,true,true,true,true,true,true,false,false,false,false,false,false,false,false,false,false,false] rfl rfl (any_of HT_.out (by kernel_rfl)) (fun _ _ _ h=>h) (Or.inl ⟨by rfl,?_⟩) ?_ ?_
     rotate_left
     ·
      intro w'
      go_simp
      with_reducible rfl
     rotate_left
     ·
      simp only [Act.put,la_,l0_,l1_,i64_w,i32_w]
      rfl
     refine pure_ (i:=19) (N:=some 44) (v:=?_) (a':=?_) #[true,true,true,true,true,true,true,true,true,true,true,true,true,true,true,true,true,false,false,true,false,false,false,false,false,false,false,false] rfl rfl (any_of HT_.out (by kernel_rfl)) (fun _ _ _ h=>h) (Or.inl ⟨by rfl,?_⟩) ?_ ?_
     rotate_left
     ·
      intro w'
      go_simp
      with_reducible rfl
     rotate_left
     ·
      simp only [Act.put,la_,l0_,l1_,i64_w,i32_w]
      rfl
     refine take_ (i:=17) (N:=some 42) (v:=?_) (a':=?_) #[true,true,true,true,true,true,true,true,true,true,true,true,true,true,true,true,true,true,false,true,false,false,false,false,false,false,false,false] rfl rfl (take_ofW HT_.out HW_.out (by kernel_rfl)) (fun _ _ _ h=>h) (Or.inl ⟨by rfl,?_⟩) hHeld ?_ ?_
     rotate_left
     ·
      rintro w' ⟨s0,s1⟩
      go_simp
      with_reducible rfl
     rotate_left
     ·
      simp only [Act.put,la_,l0_,l1_,i64_w,i32_w]
      rfl
     refine take_ (i:=20) (N:=some 45) (v:=?_) (a':=?_) #[true,true,true,true,true,true,true,true,true,true,true,true,true,true,true,true,true,true,false,true,true,false,false,false,false,false,false,false] rfl rfl (take_ofW HT_.out HW_.out (by kernel_rfl)) (fun _ _ _ h=>h) (Or.inl ⟨by rfl,?_⟩) hHeld ?_ ?_
     rotate_left
     ·
      rintro w' ⟨s0,s1⟩
      go_simp
      with_reducible rfl
     rotate_left
     ·
      simp only [Act.put,la_,l0_,l1_,i64_w,i32_w]
      rfl
     refine one_ (i:=18) (N:=some 43) #[true,true,true,true,true,true,true,true,true,true,true,true,true,true,true,true,true,true,true,true,true,false,false,false,false,false,false,false] rfl rfl (one_of HT_.out (by kernel_rfl)) (by decide) (fun K hK=>?_)
     refine goes_ Try.func18 (by kernel_rfl) rfl #[.slice A0 l0.length c0,.agg #[.int .i64 a1_0,.int .i64 a1_1]] (by rfl) rfl rfl (by (try simp only [List.map_toArray,List.map_cons,List.map_nil]);first|done|rfl|(simp only [List.length_drop,List.length_take];rfl)) ?_
     with_reducible refine (convex_Support.calls k _ _ l0 a1_0 a1_1 t352 _ ?side1 ?side2 A15.out).mono ?_
     (case side1=>repeat (first|exact (Kd.C_below HR0.out (by repeat (first|(with_reducible first|exact HB.out|apply ba_|apply bn_|apply bd_|refine below_set ?_ GE339.out)|exact HB.out)))|(with_reducible refine Kd.C_alloc ?_ _)|(with_reducible refine Kd.C_drewN ?_ _)|(with_reducible refine Kd.C_drew ?_)))
     (case side2=>exact HC0.out)
     rintro e w29 ⟨rfl,hb⟩
     refine ⟨_,rfl,?_⟩
     have n0_:=Aside0.mk (Kd.R_below (by (with_reducible repeat (first|apply ra_|apply rn_|apply rd_));exact HO347.out) hb)
     have n1_:=Aside0.mk (Kd.R_below (by (with_reducible repeat (first|apply ra_|apply rn_|apply rd_));exact HO350.out) hb)
     have n2_:=Aside0.mk (blk_below (g:=gb339) (o:=.cells #[.int .i64 a1_0,.int .i64 a1_1] 30 (0,0)) (by (with_reducible repeat (first|refine kn_ ?_ _|refine kd_ ?_|refine ka_ ?_ _));exact BK339.out) hb)
     have n3_:=Aside0.mk (below_step (by repeat (first|(with_reducible first|exact HB.out|apply ba_|apply bn_|apply bd_|refine below_set ?_ GE339.out)|exact HB.out)) hb)
     clear HO347
     clear HO350
     clear BK339
     clear HB
     have HO347:=n0_
     have HO350:=n1_
     have BK339:=n2_
     have HB:=n3_
     clear n0_ n1_ n2_ n3_
     (try clear hb)
     (try clear hb2)
     (try clear hk)
     (try clear hi)
     refine hK.out _ _ ⟨(blk_cell BK339.out 0).trans rfl,(blk_cell BK339.out 1).trans rfl⟩ (fun hHeld=>?_)
     clear hK K
     refine norm_ (a':=?_) ?_ ?_
     rotate_left
     ·
      show Act.put _ (some 43) _ = _
      simp only [Act.put,la_,l0_,l1_,i64_w,i32_w]
      rfl
     refine one_ (i:=21) (N:=some 46) #[true,true,true,true,true,true,true,true,true,true,true,true,true,true,true,true,true,true,true,true,true,true,false,false,false,false,false,false] rfl rfl (one_of HT_.out (by kernel_rfl)) (by decide) (fun K hK=>?_)
     refine goes_ Try.func19 (by kernel_rfl) rfl #[.slice A0 l0.length c0,.agg #[.int .i64 a1_0,.int .i64 a1_1]] (by rfl) rfl rfl (by (try simp only [List.map_toArray,List.map_cons,List.map_nil]);first|done|rfl|(simp only [List.length_drop,List.length_take];rfl)) ?_
     with_reducible refine (garmentref14_Support.calls k _ _ l0 a1_0 a1_1 t353 _ ?side1 ?side2 A16.out).mono ?_
     (case side1=>repeat (first|exact (Kd.C_below HR0.out HB.out)|(with_reducible refine Kd.C_alloc ?_ _)|(with_reducible refine Kd.C_drewN ?_ _)|(with_reducible refine Kd.C_drew ?_)))
     (case side2=>exact HC0.out)
     rintro e w30 ⟨rfl,hb⟩
     refine ⟨_,rfl,?_⟩
     have n0_:=Aside0.mk (Kd.R_below (by (with_reducible repeat (first|apply ra_|apply rn_|apply rd_));exact HO347.out) hb)
     have n1_:=Aside0.mk (Kd.R_below (by (with_reducible repeat (first|apply ra_|apply rn_|apply rd_));exact HO350.out) hb)
     have n2_:=Aside0.mk (blk_below (g:=gb339) (o:=.cells #[.int .i64 a1_0,.int .i64 a1_1] 30 (0,0)) (by (with_reducible repeat (first|refine kn_ ?_ _|refine kd_ ?_|refine ka_ ?_ _));exact BK339.out) hb)
     have n3_:=Aside0.mk (below_step (by repeat (first|(with_reducible first|exact HB.out|apply ba_|apply bn_|apply bd_|refine below_set ?_ GE339.out)|exact HB.out)) hb)
     clear HO347
     clear HO350
     clear BK339
     clear HB
     have HO347:=n0_
     have HO350:=n1_
     have BK339:=n2_
     have HB:=n3_
     clear n0_ n1_ n2_ n3_
     (try clear hb)
     (try clear hb2)
     (try clear hk)
     (try clear hi)
     refine hK.out _ _ ⟨(blk_cell BK339.out 0).trans rfl,(blk_cell BK339.out 1).trans rfl⟩ (fun hHeld=>?_)
     clear hK K
     refine norm_ (a':=?_) ?_ ?_
     rotate_left
     ·
      show Act.put _ (some 46) _ = _
      simp only [Act.put,la_,l0_,l1_,i64_w,i32_w]
      rfl
     refine pure_ (i:=22) (N:=some 47) (v:=?_) (a':=?_) #[true,true,true,true,true,true,true,true,true,true,true,true,true,true,true,true,true,true,true,true,true,true,true,false,false,false,false,false] rfl rfl (any_of HT_.out (by kernel_rfl)) (fun _ _ _ h=>h) (Or.inl ⟨by rfl,?_⟩) ?_ ?_
     rotate_left
     ·
      intro w'
      go_simp
      with_reducible rfl
     rotate_left
     ·
      simp only [Act.put,la_,l0_,l1_,i64_w,i32_w]
      rfl
     refine pure_ (i:=23) (N:=some 48) (v:=?_) (a':=?_) #[true,true,true,true,true,true,true,true,true,true,true,true,true,true,true,true,true,true,true,true,true,true,true,true,false,false,false,false] rfl rfl (any_of HT_.out (by kernel_rfl)) (fun _ _ _ h=>h) (Or.inl ⟨by rfl,?_⟩) ?_ ?_
     rotate_left
     ·
      intro w'
      go_simp
      with_reducible rfl
     rotate_left
     ·
      simp only [Act.put,la_,l0_,l1_,i64_w,i32_w]
      rfl
     refine pure_ (i:=24) (N:=some 49) (v:=?_) (a':=?_) #[true,true,true,true,true,true,true,true,true,true,true,true,true,true,true,true,true,true,true,true,true,true,true,true,true,false,false,false] rfl rfl (any_of HT_.out (by kernel_rfl)) (fun _ _ _ h=>h) (Or.inl ⟨by rfl,?_⟩) ?_ ?_
     rotate_left
     ·
      intro w'
      go_simp
      with_reducible rfl
     rotate_left
     ·
      simp only [Act.put,la_,l0_,l1_,i64_w,i32_w]
      rfl
     refine one_ (i:=25) (N:=some 50) #[true,true,true,true,true,true,true,true,true,true,true,true,true,true,true,true,true,true,true,true,true,true,true,true,true,true,false,false] rfl rfl (one_of HT_.out (by kernel_rfl)) (by decide) (fun K hK=>?_)
     refine goes_ Try.func10 (by kernel_rfl) rfl #[] (by rfl) rfl rfl (by (try simp only [List.map_toArray,List.map_cons,List.map_nil]);first|done|rfl|(simp only [List.length_drop,List.length_take];rfl)) ?_
     with_reducible refine (garmentlaw14_awake.calls k  t354 _ A18.out).mono ?_
     rintro e w31 ⟨rfl,hb⟩
     refine ⟨_,rfl,?_⟩
     have n0_:=Aside0.mk (Kd.R_below (by (with_reducible repeat (first|apply ra_|apply rn_|apply rd_));exact HO347.out) hb)
     have n1_:=Aside0.mk (Kd.R_below (by (with_reducible repeat (first|apply ra_|apply rn_|apply rd_));exact HO350.out) hb)
     have n2_:=Aside0.mk (blk_below (g:=gb339) (o:=.cells #[.int .i64 a1_0,.int .i64 a1_1] 30 (0,0)) (by (with_reducible repeat (first|refine kn_ ?_ _|refine kd_ ?_|refine ka_ ?_ _));exact BK339.out) hb)
     have n3_:=Aside0.mk (below_step (by repeat (first|(with_reducible first|exact HB.out|apply ba_|apply bn_|apply bd_|refine below_set ?_ GE339.out)|exact HB.out)) hb)
     clear HO347
     clear HO350
     clear BK339
     clear HB
     have HO347:=n0_
     have HO350:=n1_
     have BK339:=n2_
     have HB:=n3_
     clear n0_ n1_ n2_ n3_
     (try clear hb)
     (try clear hb2)
     (try clear hk)
     (try clear hi)
     refine hK.out _ _ ⟨(blk_cell BK339.out 0).trans rfl,(blk_cell BK339.out 1).trans rfl⟩ (fun hHeld=>?_)
     clear hK K
     refine norm_ (a':=?_) ?_ ?_
     rotate_left
     ·
      show Act.put _ (some 50) _ = _
      simp only [Act.put,la_,l0_,l1_,i64_w,i32_w]
      rfl
     refine pure_ (i:=26) (N:=some 51) (v:=?_) (a':=?_) #[true,true,true,true,true,true,true,true,true,true,true,true,true,true,true,true,true,true,true,true,true,true,true,true,true,true,true,false] rfl rfl (any_of HT_.out (by kernel_rfl)) (fun _ _ _ h=>h) (Or.inl ⟨by rfl,?_⟩) ?_ ?_
     rotate_left
     ·
      intro w'
      go_simp
      with_reducible rfl
     rotate_left
     ·
      simp only [Act.put,la_,l0_,l1_,i64_w,i32_w]
      rfl
     refine pure_ (i:=27) (N:=some 4) (v:=?_) (a':=?_) #[true,true,true,true,true,true,true,true,true,true,true,true,true,true,true,true,true,true,true,true,true,true,true,true,true,true,true,true] rfl rfl (any_of HT_.out (by kernel_rfl)) (fun _ _ _ h=>h) (Or.inl ⟨by rfl,?_⟩) ?_ ?_
     rotate_left
     ·
      intro w'
      go_simp
      with_reducible rfl
     rotate_left
     ·
      simp only [Act.put,la_,l0_,l1_,i64_w,i32_w]
      rfl
     refine done_ (done_of HT_.out (by kernel_rfl)) ?_
     try go_wp2
     go_ret
     exact ⟨by first|rfl|(simp [errW_none,errW_some] <;> rfl)|(simp [*,errW_none,errW_some] <;> rfl),by repeat (first|(with_reducible first|exact HB.out|apply ba_|apply bn_|apply bd_|refine below_set ?_ GE339.out)|exact HB.out)⟩
    rw [if_neg c17] at H
    have c17b0 : (t352 == t353) = false:=beq_eq_false_iff_ne.mpr c17
    have c17b1 : (t352 != t353) = true:=bne_iff_ne.mpr c17
    obtain rfl:=Option.some.inj H
    go_enter Try.func4,Try.ntmps4
    try go_wp2_with (first|((with_reducible refine gate_dst (N:=3) rfl ?_);refine box_event ?hg (N:=3) ?hd (cs:=#[.int .i64 a1_0,.int .i64 a1_1]) (t:=30) ?hr ?_;(case hd=>rfl);(case hg=>rfl);(case hr=>first|(go_simp;done)|(go_simp;rfl));intro gb339 hg w32 hbox hb;have n0_:=Aside0.mk (below_step (by repeat (first|(with_reducible first|exact HB.out|apply ba_|apply bn_|apply bd_)|exact HB.out)) hb);have n1_:=Aside0.mk (hbox);have n2_:=Aside0.mk ((by rw [hg];exact (below_size (by repeat (first|(with_reducible first|exact HB.out|apply ba_|apply bn_|apply bd_)|exact HB.out))) : w.heap.size ≤ gb339));have n3_:=Aside0.mk ((by rw [hg];exact (below_size (by repeat (first|(with_reducible first|exact HB.out|apply ba_|apply bn_|apply bd_)|exact HB.out))) : w.heap.size ≤ gb339));clear HB;have HB:=n0_;have BK339:=n1_;have GW339:=n2_;have GE339:=n3_;clear n0_ n1_ n2_ n3_;clear hb hbox hg;have hcz33_0 : w32.cell? ⟨gb339,0,none⟩ = some (.int .i64 a1_0):=(blk_cell BK339.out 0).trans rfl;have hcz33_1 : w32.cell? ⟨gb339,1,none⟩ = some (.int .i64 a1_1):=(blk_cell BK339.out 1).trans rfl;have hfz33_0:=blk_frozen BK339.out 0;have hfz33_1:=blk_frozen BK339.out 1)|((with_reducible refine gate_callee (f:=14) rfl ?_);refine goesL_ (some 16) rfl rfl Try.func14 (by kernel_rfl) rfl #[.slice A0 l0.length c0,.agg #[.int .i64 a1_0,.int .i64 a1_1]] rfl (by (try simp only [List.map_toArray,List.map_cons,List.map_nil]);first|done|rfl|(simp only [List.length_drop,List.length_take];rfl)) ?_;(with_reducible refine (convex_Inside.calls k _ _ l0 a1_0 a1_1 t341 t342 _ ?side1 ?side2 A7.out).mono ?_);(case side1=>repeat (first|exact (Kd.C_below HR0.out HB.out)|(with_reducible refine Kd.C_alloc ?_ _)|(with_reducible refine Kd.C_drewN ?_ _)|(with_reducible refine Kd.C_drew ?_)));(case side2=>exact HC0.out);rintro e w34 ⟨rfl,hb⟩;refine ⟨_,rfl,?_⟩;have n0_:=Aside0.mk (blk_below (g:=gb339) (o:=.cells #[.int .i64 a1_0,.int .i64 a1_1] 30 (0,0)) (by (with_reducible repeat (first|refine kn_ ?_ _|refine kd_ ?_|refine ka_ ?_ _));exact BK339.out) hb);have n1_:=Aside0.mk (below_step (by repeat (first|(with_reducible first|exact HB.out|apply ba_|apply bn_|apply bd_|refine below_set ?_ GE339.out)|exact HB.out)) hb);clear BK339;clear HB;have BK339:=n0_;have HB:=n1_;clear n0_ n1_;(try clear hb);(try clear hb2);(try clear hk);(try clear hi);have hcz35_0 : w34.cell? ⟨gb339,0,none⟩ = some (.int .i64 a1_0):=(blk_cell BK339.out 0).trans rfl;have hcz35_1 : w34.cell? ⟨gb339,1,none⟩ = some (.int .i64 a1_1):=(blk_cell BK339.out 1).trans rfl;have hfz35_0:=blk_frozen BK339.out 0;have hfz35_1:=blk_frozen BK339.out 1)|((with_reducible refine gate_callee (f:=15) rfl ?_);refine goesL_ (some 22) rfl rfl Try.func15 (by kernel_rfl) rfl #[.slice A0 l0.length c0,.agg #[.int .i64 a1_0,.int .i64 a1_1]] rfl (by (try simp only [List.map_toArray,List.map_cons,List.map_nil]);first|done|rfl|(simp only [List.length_drop,List.length_take];rfl)) ?_;(with_reducible refine (garmentref14_Inside.calls k _ _ l0 a1_0 a1_1 t343 t344 _ ?side1 ?side2 A8.out).mono ?_);(case side1=>repeat (first|exact (Kd.C_below HR0.out HB.out)|(with_reducible refine Kd.C_alloc ?_ _)|(with_reducible refine Kd.C_drewN ?_ _)|(with_reducible refine Kd.C_drew ?_)));(case side2=>exact HC0.out);rintro e w36 ⟨rfl,hb⟩;refine ⟨_,rfl,?_⟩;have n0_:=Aside0.mk (blk_below (g:=gb339) (o:=.cells #[.int .i64 a1_0,.int .i64 a1_1] 30 (0,0)) (by (with_reducible repeat (first|refine kn_ ?_ _|refine kd_ ?_|refine ka_ ?_ _));exact BK339.out) hb);have n1_:=Aside0.mk (below_step (by repeat (first|(with_reducible first|exact HB.out|apply ba_|apply bn_|apply bd_|refine below_set ?_ GE339.out)|exact HB.out)) hb);clear BK339;clear HB;have BK339:=n0_;have HB:=n1_;clear n0_ n1_;(try clear hb);(try clear hb2);(try clear hk);(try clear hi)))
    have n0_:=Aside0.mk (kd_ BK339.out)
    have n1_:=Aside0.mk (bd_ HB.out)
    clear BK339
    clear HB
    have BK339:=n0_
    have HB:=n1_
    clear n0_ n1_
    refine start_ (n:=28) (S:=fun w'=>w'.cell? ⟨gb339,0,none⟩ = some (.int .i64 a1_0)∧w'.cell? ⟨gb339,1,none⟩ = some (.int .i64 a1_1)) (ds:=[]) #[false,false,false,false,false,false,false,false,false,false,false,false,false,false,false,false,false,false,false,false,false,false,false,false,false,false,false,false] (by kernel_rfl) rfl rfl ⟨(blk_cell BK339.out 0).trans rfl,(blk_cell BK339.out 1).trans rfl⟩ (fun hHeld=>?_);refine with_tabW garmentlaw14_ConvexInsides.tab5 garmentlaw14_ConvexInsides.bits5 (fun HT_ HW_=>?_)
    generalize w36.drew = w37 at BK339 HB hHeld ⊢
    refine pure_ (i:=0) (N:=some 25) (v:=?_) (a':=?_) #[true,false,false,false,false,false,false,false,false,false,false,false,false,false,false,false,false,false,false,false,false,false,false,false,false,false,false,false] rfl rfl (any_of HT_.out (by kernel_rfl)) (fun _ _ _ h=>h) (Or.inl ⟨by rfl,?_⟩) ?_ ?_
    rotate_left
    ·
     intro w'
     go_simp
     with_reducible rfl
    rotate_left
    ·
     simp only [Act.put,la_,l0_,l1_,i64_w,i32_w]
     rfl
    refine pure_ (i:=1) (N:=some 26) (v:=?_) (a':=?_) #[true,true,false,false,false,false,false,false,false,false,false,false,false,false,false,false,false,false,false,false,false,false,false,false,false,false,false,false] rfl rfl (any_of HT_.out (by kernel_rfl)) (fun _ _ _ h=>h) (Or.inl ⟨by rfl,?_⟩) ?_ ?_
    rotate_left
    ·
     intro w'
     go_simp
     with_reducible rfl
    rotate_left
    ·
     simp only [Act.put,la_,l0_,l1_,i64_w,i32_w]
     rfl
    refine pure_ (i:=2) (N:=some 27) (v:=?_) (a':=?_) #[true,true,true,false,false,false,false,false,false,false,false,false,false,false,false,false,false,false,false,false,false,false,false,false,false,false,false,false] rfl rfl (any_of HT_.out (by kernel_rfl)) (fun _ _ _ h=>h) (Or.inl ⟨by rfl,?_⟩) ?_ ?_
    rotate_left
    ·
     intro w'
     go_simp
     with_reducible rfl
    rotate_left
    ·
     simp only [Act.put,la_,l0_,l1_,i64_w,i32_w]
     rfl
    refine pure_ (i:=3) (N:=some 28) (v:=?_) (a':=?_) #[true,true,true,true,false,false,false,false,false,false,false,false,false,false,false,false,false,false,false,false,false,false,false,false,false,false,false,false] rfl rfl (any_of HT_.out (by kernel_rfl)) (fun _ _ _ h=>h) (Or.inl ⟨by rfl,?_⟩) ?_ ?_
    rotate_left
    ·
     intro w'
     go_simp
     with_reducible rfl
    rotate_left
    ·
     simp only [Act.put,la_,l0_,l1_,i64_w,i32_w]
     rfl
    refine pure_ (i:=4) (N:=some 29) (v:=?_) (a':=?_) #[true,true,true,true,true,false,false,false,false,false,false,false,false,false,false,false,false,false,false,false,false,false,false,false,false,false,false,false] rfl rfl (any_of HT_.out (by kernel_rfl)) (fun _ _ _ h=>h) (Or.inl ⟨by rfl,?_⟩) ?_ ?_
    rotate_left
    ·
     intro w'
     go_simp
     with_reducible rfl
    rotate_left
    ·
     simp only [Act.put,la_,l0_,l1_,i64_w,i32_w]
     rfl
    refine pure_ (i:=5) (N:=some 30) (v:=?_) (a':=?_) #[true,true,true,true,true,true,false,false,false,false,false,false,false,false,false,false,false,false,false,false,false,false,false,false,false,false,false,false] rfl rfl (any_of HT_.out (by kernel_rfl)) (fun _ _ _ h=>h) (Or.inl ⟨by rfl,?_⟩) ?_ ?_
    rotate_left
    ·
     intro w'
     go_simp
     with_reducible rfl
    rotate_left
    ·
     simp only [Act.put,la_,l0_,l1_,i64_w,i32_w]
     rfl
    refine pure_ (i:=6) (N:=some 31) (v:=?_) (a':=?_) #[true,true,true,true,true,true,true,false,false,false,false,false,false,false,false,false,false,false,false,false,false,false,false,false,false,false,false,false] rfl rfl (any_of HT_.out (by kernel_rfl)) (fun _ _ _ h=>h) (Or.inl ⟨by rfl,?_⟩) ?_ ?_
    rotate_left
    ·
     intro w'
     go_simp
     with_reducible rfl
    rotate_left
    ·
     simp only [Act.put,la_,l0_,l1_,i64_w,i32_w]
     rfl
    refine pure_ (i:=7) (N:=some 32) (v:=?_) (a':=?_) #[true,true,true,true,true,true,true,true,false,false,false,false,false,false,false,false,false,false,false,false,false,false,false,false,false,false,false,false] rfl rfl (any_of HT_.out (by kernel_rfl)) (fun _ _ _ h=>h) (Or.inl ⟨by rfl,?_⟩) ?_ ?_
    rotate_left
    ·
     intro w'
     go_simp
     with_reducible rfl
    rotate_left
    ·
     simp only [Act.put,la_,l0_,l1_,i64_w,i32_w]
     rfl
    refine pure_ (i:=8) (N:=some 33) (v:=?_) (a':=?_) #[true,true,true,true,true,true,true,true,true,false,false,false,false,false,false,false,false,false,false,false,false,false,false,false,false,false,false,false] rfl rfl (any_of HT_.out (by kernel_rfl)) (fun _ _ _ h=>h) (Or.inl ⟨by rfl,?_⟩) ?_ ?_
    rotate_left
    ·
     intro w'
     go_simp
     with_reducible rfl
    rotate_left
    ·
     simp only [Act.put,la_,l0_,l1_,i64_w,i32_w]
     rfl
    refine pure_ (i:=9) (N:=some 34) (v:=?_) (a':=?_) #[true,true,true,true,true,true,true,true,true,true,false,false,false,false,false,false,false,false,false,false,false,false,false,false,false,false,false,false] rfl rfl (any_of HT_.out (by kernel_rfl)) (fun _ _ _ h=>h) (Or.inl ⟨by rfl,?_⟩) ?_ ?_
    rotate_left
    ·
     intro w'
     go_simp
     with_reducible rfl
    rotate_left
    ·
     simp only [Act.put,la_,l0_,l1_,i64_w,i32_w]
     rfl
    refine pure_ (i:=11) (N:=some 36) (v:=?_) (a':=?_) #[true,true,true,true,true,true,true,true,true,true,false,true,false,false,false,false,false,false,false,false,false,false,false,false,false,false,false,false] rfl rfl (any_of HT_.out (by kernel_rfl)) (fun _ _ _ h=>h) (Or.inl ⟨by rfl,?_⟩) ?_ ?_
    rotate_left
    ·
     intro w'
     go_simp
     with_reducible rfl
    rotate_left
    ·
     simp only [Act.put,la_,l0_,l1_,i64_w,i32_w]
     rfl
    refine one_ (i:=10) (N:=some 35) #[true,true,true,true,true,true,true,true,true,true,true,true,false,false,false,false,false,false,false,false,false,false,false,false,false,false,false,false] rfl rfl (one_of HT_.out (by kernel_rfl)) (by decide) (fun K hK=>?_)
    refine goes_ Try.func16 (by kernel_rfl) rfl #[.slice A0 l0.length c0] (by rfl) rfl rfl (by (try simp only [List.map_toArray,List.map_cons,List.map_nil]);first|done|rfl|(simp only [List.length_drop,List.length_take];rfl)) ?_
    with_reducible refine (convex_Negate.calls k _ _ l0 t345 _ ?side1 ?side2 A11.out).mono ?_
    (case side1=>repeat (first|exact (Kd.C_below HR0.out HB.out)|(with_reducible refine Kd.C_alloc ?_ _)|(with_reducible refine Kd.C_drewN ?_ _)|(with_reducible refine Kd.C_drew ?_)))
    (case side2=>exact HC0.out)
    rintro e w38 ⟨v346,rfl,ho0,hb⟩
    refine ⟨_,rfl,?_⟩
    have n0_:=Aside0.mk (Kd.R_lower (Kd.R_newB ho0 (g:=gb339) (o:=.cells #[.int .i64 a1_0,.int .i64 a1_1] 30 (0,0)) (by (with_reducible repeat (first|refine kn_ ?_ _|refine kd_ ?_|refine ka_ ?_ _));exact BK339.out)) (below_size (by repeat (first|(with_reducible first|exact HB.out|apply ba_|apply bn_|apply bd_|refine below_set ?_ GE339.out)|exact HB.out))))
    have n1_:=Aside0.mk (blk_below (g:=gb339) (o:=.cells #[.int .i64 a1_0,.int .i64 a1_1] 30 (0,0)) (by (with_reducible repeat (first|refine kn_ ?_ _|refine kd_ ?_|refine ka_ ?_ _));exact BK339.out) hb)
    have n2_:=Aside0.mk (below_step (by repeat (first|(with_reducible first|exact HB.out|apply ba_|apply bn_|apply bd_|refine below_set ?_ GE339.out)|exact HB.out)) hb)
    clear BK339
    clear HB
    have HO347:=n0_
    have BK339:=n1_
    have HB:=n2_
    clear n0_ n1_ n2_
    (try clear hb)
    (try clear hb2)
    (try clear hk)
    (try clear hi)
    (try clear ho0)
    refine hK.out _ _ ⟨(blk_cell BK339.out 0).trans rfl,(blk_cell BK339.out 1).trans rfl⟩ (fun hHeld=>?_)
    clear hK K
    refine norm_ (a':=?_) ?_ ?_
    rotate_left
    ·
     show Act.put _ (some 35) _ = _
     simp only [Act.put,la_,l0_,l1_,i64_w,i32_w]
     rfl
    refine one_ (i:=12) (N:=some 37) #[true,true,true,true,true,true,true,true,true,true,true,true,true,false,false,false,false,false,false,false,false,false,false,false,false,false,false,false] rfl rfl (one_of HT_.out (by kernel_rfl)) (by decide) (fun K hK=>?_)
    refine goes_ Try.func17 (by kernel_rfl) rfl #[.slice A0 l0.length c0] (by rfl) rfl rfl (by (try simp only [List.map_toArray,List.map_cons,List.map_nil]);first|done|rfl|(simp only [List.length_drop,List.length_take];rfl)) ?_
    with_reducible refine (garmentref14_Negate.calls k _ _ l0 t348 _ ?side1 ?side2 A12.out).mono ?_
    (case side1=>repeat (first|exact (Kd.C_below HR0.out HB.out)|(with_reducible refine Kd.C_alloc ?_ _)|(with_reducible refine Kd.C_drewN ?_ _)|(with_reducible refine Kd.C_drew ?_)))
    (case side2=>exact HC0.out)
    rintro e w39 ⟨v349,rfl,ho0,hb⟩
    refine ⟨_,rfl,?_⟩
    have n0_:=Aside0.mk (Kd.R_elder' (by (with_reducible repeat (first|apply ra_|apply rn_|apply rd_));exact HO347.out) (Kd.R_base ho0) hb)
    have n1_:=Aside0.mk (Kd.R_lower (Kd.R_newB (Kd.R_new' ho0 (Kd.R_lt (by (with_reducible repeat (first|apply ra_|apply rn_|apply rd_));exact HO347.out))) (g:=gb339) (o:=.cells #[.int .i64 a1_0,.int .i64 a1_1] 30 (0,0)) (by (with_reducible repeat (first|refine kn_ ?_ _|refine kd_ ?_|refine ka_ ?_ _));exact BK339.out)) (below_size (by repeat (first|(with_reducible first|exact HB.out|apply ba_|apply bn_|apply bd_|refine below_set ?_ GE339.out)|exact HB.out))))
    have n2_:=Aside0.mk (blk_below (g:=gb339) (o:=.cells #[.int .i64 a1_0,.int .i64 a1_1] 30 (0,0)) (by (with_reducible repeat (first|refine kn_ ?_ _|refine kd_ ?_|refine ka_ ?_ _));exact BK339.out) hb)
    have n3_:=Aside0.mk (below_step (by repeat (first|(with_reducible first|exact HB.out|apply ba_|apply bn_|apply bd_|refine below_set ?_ GE339.out)|exact HB.out)) hb)
    clear HO347
    clear BK339
    clear HB
    have HO347:=n0_
    have HO350:=n1_
    have BK339:=n2_
    have HB:=n3_
    clear n0_ n1_ n2_ n3_
    (try clear hb)
    (try clear hb2)
    (try clear hk)
    (try clear hi)
    (try clear ho0)
    obtain ⟨Ao40,co40,eo40⟩:=Kd.R_slice HO347.out
    (first|subst eo40|(injection eo40 with f1_ f2_ f3_;have f4_:=f1_.symm;have f5_:=f3_.symm;clear f1_ f2_ f3_;subst f4_;subst f5_))
    obtain ⟨Ao41,co41,eo41⟩:=Kd.R_slice HO350.out
    (first|subst eo41|(injection eo41 with f1_ f2_ f3_;have f4_:=f1_.symm;have f5_:=f3_.symm;clear f1_ f2_ f3_;subst f4_;subst f5_))
    refine hK.out _ _ ⟨(blk_cell BK339.out 0).trans rfl,(blk_cell BK339.out 1).trans rfl⟩ (fun hHeld=>?_)
    clear hK K
    refine norm_ (a':=?_) ?_ ?_
    rotate_left
    ·
     show Act.put _ (some 37) _ = _
     simp only [Act.put,la_,l0_,l1_,i64_w,i32_w]
     rfl
    refine one_ (i:=13) (N:=some 38) #[true,true,true,true,true,true,true,true,true,true,true,true,true,true,false,false,false,false,false,false,false,false,false,false,false,false,false,false] rfl rfl (one_of HT_.out (by kernel_rfl)) (by decide) (fun K hK=>?_)
    refine goes_ Try.func13 (by kernel_rfl) rfl #[.slice Ao40 t345.length co40,.slice Ao41 t348.length co41] (by rfl) rfl rfl (by (try simp only [List.map_toArray,List.map_cons,List.map_nil]);first|done|rfl|(simp only [List.length_drop,List.length_take];rfl)) ?_
    with_reducible refine (garmentref11_Same.calls k _ _ t345 _ _ t348 true _ ?side1 ?side2 ?side3 ?side4 A13.out).mono ?_
    (case side1=>repeat (first|exact (Kd.R_reads' HO347.out).2.2|(with_reducible refine Kd.C_alloc ?_ _)|(with_reducible refine Kd.C_drewN ?_ _)|(with_reducible refine Kd.C_drew ?_)))
    (case side2=>exact (Kd.R_reads' HO347.out).2.1)
    (case side3=>repeat (first|exact (Kd.R_reads' HO350.out).2.2|(with_reducible refine Kd.C_alloc ?_ _)|(with_reducible refine Kd.C_drewN ?_ _)|(with_reducible refine Kd.C_drew ?_)))
    (case side4=>exact (Kd.R_reads' HO350.out).2.1)
    rintro e w' ⟨rfl,⟨nd,rfl⟩⟩
    refine ⟨_,rfl,?_⟩
    refine hK.out _ _ ⟨(blk_cell BK339.out 0).trans rfl,(blk_cell BK339.out 1).trans rfl⟩ (fun hHeld=>?_)
    clear hK K
    refine norm_ (a':=?_) ?_ ?_
    rotate_left
    ·
     show Act.put _ (some 38) _ = _
     simp only [Act.put,la_,l0_,l1_,i64_w,i32_w]
     rfl
    refine pure_ (i:=14) (N:=some 39) (v:=?_) (a':=?_) #[true,true,true,true,true,true,true,true,true,true,true,true,true,true,true,false,false,false,false,false,false,false,false,false,false,false,false,false] rfl rfl (any_of HT_.out (by kernel_rfl)) (fun _ _ _ h=>h) (Or.inl ⟨by rfl,?_⟩) ?_ ?_
    rotate_left
    ·
     intro w'
     go_simp
     with_reducible rfl
    rotate_left
    ·
     simp only [Act.put,la_,l0_,l1_,i64_w,i32_w]
     rfl
    refine pure_ (i:=15) (N:=some 40) (v:=?_) (a':=?_) #[true,true,true,true,true,true,true,true,true,true,true,true,true,true,true,true,false,false,false,false,false,false,false,false,false,false,false,false] rfl rfl (any_of HT_.out (by kernel_rfl)) (fun _ _ _ h=>h) (Or.inl ⟨by rfl,?_⟩) ?_ ?_
    rotate_left
    ·
     intro w'
     go_simp
     with_reducible rfl
    rotate_left
    ·
     simp only [Act.put,la_,l0_,l1_,i64_w,i32_w]
     rfl
    refine pure_ (i:=16) (N:=some 41) (v:=?_) (a':=?_) #[true,true,true,true,true,true,true,true,true,true,true,true,true,true,true,true,true,false,false,false,false,false,false,false,false,false,false,false] rfl rfl (any_of HT_.out (by kernel_rfl)) (fun _ _ _ h=>h) (Or.inl ⟨by rfl,?_⟩) ?_ ?_
    rotate_left
    ·
     intro w'
     go_simp
     with_reducible rfl
    rotate_left
    ·
     simp only [Act.put,la_,l0_,l1_,i64_w,i32_w]
     rfl
    refine pure_ (i:=19) (N:=some 44) (v:=?_) (a':=?_) #[true,true,true,true,true,true,true,true,true,true,true,true,true,true,true,true,true,false,false,true,false,false,false,false,false,false,false,false] rfl rfl (any_of HT_.out (by kernel_rfl)) (fun _ _ _ h=>h) (Or.inl ⟨by rfl,?_⟩) ?_ ?_
    rotate_left
    ·
     intro w'
     go_simp
     with_reducible rfl
    rotate_left
    ·
     simp only [Act.put,la_,l0_,l1_,i64_w,i32_w]
     rfl
    refine take_ (i:=17) (N:=some 42) (v:=?_) (a':=?_) #[true,true,true,true,true,true,true,true,true,true,true,true,true,true,true,true,true,true,false,true,false,false,false,false,false,false,false,false] rfl rfl (take_ofW HT_.out HW_.out (by kernel_rfl)) (fun _ _ _ h=>h) (Or.inl ⟨by rfl,?_⟩) hHeld ?_ ?_
    rotate_left
    ·
     rintro w' ⟨s0,s1⟩
     go_simp
     with_reducible rfl
    rotate_left
    ·
     simp only [Act.put,la_,l0_,l1_,i64_w,i32_w]
     rfl
    refine take_ (i:=20) (N:=some 45) (v:=?_) (a':=?_) #[true,true,true,true,true,true,true,true,true,true,true,true,true,true,true,true,true,true,false,true,true,false,false,false,false,false,false,false] rfl rfl (take_ofW HT_.out HW_.out (by kernel_rfl)) (fun _ _ _ h=>h) (Or.inl ⟨by rfl,?_⟩) hHeld ?_ ?_
    rotate_left
    ·
     rintro w' ⟨s0,s1⟩
     go_simp
     with_reducible rfl
    rotate_left
    ·
     simp only [Act.put,la_,l0_,l1_,i64_w,i32_w]
     rfl
    refine one_ (i:=18) (N:=some 43) #[true,true,true,true,true,true,true,true,true,true,true,true,true,true,true,true,true,true,true,true,true,false,false,false,false,false,false,false] rfl rfl (one_of HT_.out (by kernel_rfl)) (by decide) (fun K hK=>?_)
    refine goes_ Try.func18 (by kernel_rfl) rfl #[.slice A0 l0.length c0,.agg #[.int .i64 a1_0,.int .i64 a1_1]] (by rfl) rfl rfl (by (try simp only [List.map_toArray,List.map_cons,List.map_nil]);first|done|rfl|(simp only [List.length_drop,List.length_take];rfl)) ?_
    with_reducible refine (convex_Support.calls k _ _ l0 a1_0 a1_1 t352 _ ?side1 ?side2 A15.out).mono ?_
    (case side1=>repeat (first|exact (Kd.C_below HR0.out (by repeat (first|(with_reducible first|exact HB.out|apply ba_|apply bn_|apply bd_|refine below_set ?_ GE339.out)|exact HB.out)))|(with_reducible refine Kd.C_alloc ?_ _)|(with_reducible refine Kd.C_drewN ?_ _)|(with_reducible refine Kd.C_drew ?_)))
    (case side2=>exact HC0.out)
    rintro e w42 ⟨rfl,hb⟩
    refine ⟨_,rfl,?_⟩
    have n0_:=Aside0.mk (Kd.R_below (by (with_reducible repeat (first|apply ra_|apply rn_|apply rd_));exact HO347.out) hb)
    have n1_:=Aside0.mk (Kd.R_below (by (with_reducible repeat (first|apply ra_|apply rn_|apply rd_));exact HO350.out) hb)
    have n2_:=Aside0.mk (blk_below (g:=gb339) (o:=.cells #[.int .i64 a1_0,.int .i64 a1_1] 30 (0,0)) (by (with_reducible repeat (first|refine kn_ ?_ _|refine kd_ ?_|refine ka_ ?_ _));exact BK339.out) hb)
    have n3_:=Aside0.mk (below_step (by repeat (first|(with_reducible first|exact HB.out|apply ba_|apply bn_|apply bd_|refine below_set ?_ GE339.out)|exact HB.out)) hb)
    clear HO347
    clear HO350
    clear BK339
    clear HB
    have HO347:=n0_
    have HO350:=n1_
    have BK339:=n2_
    have HB:=n3_
    clear n0_ n1_ n2_ n3_
    (try clear hb)
    (try clear hb2)
    (try clear hk)
    (try clear hi)
    refine hK.out _ _ ⟨(blk_cell BK339.out 0).trans rfl,(blk_cell BK339.out 1).trans rfl⟩ (fun hHeld=>?_)
    clear hK K
    refine norm_ (a':=?_) ?_ ?_
    rotate_left
    ·
     show Act.put _ (some 43) _ = _
     simp only [Act.put,la_,l0_,l1_,i64_w,i32_w]
     rfl
    refine one_ (i:=21) (N:=some 46) #[true,true,true,true,true,true,true,true,true,true,true,true,true,true,true,true,true,true,true,true,true,true,false,false,false,false,false,false] rfl rfl (one_of HT_.out (by kernel_rfl)) (by decide) (fun K hK=>?_)
    refine goes_ Try.func19 (by kernel_rfl) rfl #[.slice A0 l0.length c0,.agg #[.int .i64 a1_0,.int .i64 a1_1]] (by rfl) rfl rfl (by (try simp only [List.map_toArray,List.map_cons,List.map_nil]);first|done|rfl|(simp only [List.length_drop,List.length_take];rfl)) ?_
    with_reducible refine (garmentref14_Support.calls k _ _ l0 a1_0 a1_1 t353 _ ?side1 ?side2 A16.out).mono ?_
    (case side1=>repeat (first|exact (Kd.C_below HR0.out HB.out)|(with_reducible refine Kd.C_alloc ?_ _)|(with_reducible refine Kd.C_drewN ?_ _)|(with_reducible refine Kd.C_drew ?_)))
    (case side2=>exact HC0.out)
    rintro e w43 ⟨rfl,hb⟩
    refine ⟨_,rfl,?_⟩
    have n0_:=Aside0.mk (Kd.R_below (by (with_reducible repeat (first|apply ra_|apply rn_|apply rd_));exact HO347.out) hb)
    have n1_:=Aside0.mk (Kd.R_below (by (with_reducible repeat (first|apply ra_|apply rn_|apply rd_));exact HO350.out) hb)
    have n2_:=Aside0.mk (blk_below (g:=gb339) (o:=.cells #[.int .i64 a1_0,.int .i64 a1_1] 30 (0,0)) (by (with_reducible repeat (first|refine kn_ ?_ _|refine kd_ ?_|refine ka_ ?_ _));exact BK339.out) hb)
    have n3_:=Aside0.mk (below_step (by repeat (first|(with_reducible first|exact HB.out|apply ba_|apply bn_|apply bd_|refine below_set ?_ GE339.out)|exact HB.out)) hb)
    clear HO347
    clear HO350
    clear BK339
    clear HB
    have HO347:=n0_
    have HO350:=n1_
    have BK339:=n2_
    have HB:=n3_
    clear n0_ n1_ n2_ n3_
    (try clear hb)
    (try clear hb2)
    (try clear hk)
    (try clear hi)
    refine hK.out _ _ ⟨(blk_cell BK339.out 0).trans rfl,(blk_cell BK339.out 1).trans rfl⟩ (fun hHeld=>?_)
    clear hK K
    refine norm_ (a':=?_) ?_ ?_
    rotate_left
    ·
     show Act.put _ (some 46) _ = _
     simp only [Act.put,la_,l0_,l1_,i64_w,i32_w]
     rfl
    refine pure_ (i:=22) (N:=some 47) (v:=?_) (a':=?_) #[true,true,true,true,true,true,true,true,true,true,true,true,true,true,true,true,true,true,true,true,true,true,true,false,false,false,false,false] rfl rfl (any_of HT_.out (by kernel_rfl)) (fun _ _ _ h=>h) (Or.inl ⟨by rfl,?_⟩) ?_ ?_
    rotate_left
    ·
     intro w'
     go_simp
     with_reducible rfl
    rotate_left
    ·
     simp only [Act.put,la_,l0_,l1_,i64_w,i32_w]
     rfl
    refine pure_ (i:=23) (N:=some 48) (v:=?_) (a':=?_) #[true,true,true,true,true,true,true,true,true,true,true,true,true,true,true,true,true,true,true,true,true,true,true,true,false,false,false,false] rfl rfl (any_of HT_.out (by kernel_rfl)) (fun _ _ _ h=>h) (Or.inl ⟨by rfl,?_⟩) ?_ ?_
    rotate_left
    ·
     intro w'
     go_simp
     with_reducible rfl
    rotate_left
    ·
     simp only [Act.put,la_,l0_,l1_,i64_w,i32_w]
     rfl
    refine pure_ (i:=24) (N:=some 49) (v:=?_) (a':=?_) #[true,true,true,true,true,true,true,true,true,true,true,true,true,true,true,true,true,true,true,true,true,true,true,true,true,false,false,false] rfl rfl (any_of HT_.out (by kernel_rfl)) (fun _ _ _ h=>h) (Or.inl ⟨by rfl,?_⟩) ?_ ?_
    rotate_left
    ·
     intro w'
     go_simp
     with_reducible rfl
    rotate_left
    ·
     simp only [Act.put,la_,l0_,l1_,i64_w,i32_w]
     rfl
    refine pure_ (i:=25) (N:=some 50) (v:=undef) (a':=?_) #[true,true,true,true,true,true,true,true,true,true,true,true,true,true,true,true,true,true,true,true,true,true,true,true,true,true,false,false] rfl rfl (any_of HT_.out (by kernel_rfl)) (fun _ _ _ h=>h) (Or.inr ⟨by rfl,rfl⟩) ?_ ?_
    rotate_left
    ·
     simp only [Act.put,la_,l0_,l1_,i64_w,i32_w]
     rfl
    refine pure_ (i:=26) (N:=some 51) (v:=?_) (a':=?_) #[true,true,true,true,true,true,true,true,true,true,true,true,true,true,true,true,true,true,true,true,true,true,true,true,true,true,true,false] rfl rfl (any_of HT_.out (by kernel_rfl)) (fun _ _ _ h=>h) (Or.inl ⟨by rfl,?_⟩) ?_ ?_
    rotate_left
    ·
     intro w'
     go_simp
     with_reducible rfl
    rotate_left
    ·
     simp only [Act.put,la_,l0_,l1_,i64_w,i32_w]
     rfl
    refine pure_ (i:=27) (N:=some 4) (v:=?_) (a':=?_) #[true,true,true,true,true,true,true,true,true,true,true,true,true,true,true,true,true,true,true,true,true,true,true,true,true,true,true,true] rfl rfl (any_of HT_.out (by kernel_rfl)) (fun _ _ _ h=>h) (Or.inl ⟨by rfl,?_⟩) ?_ ?_
    rotate_left
    ·
     intro w'
     go_simp
     with_reducible rfl
    rotate_left
    ·
     simp only [Act.put,la_,l0_,l1_,i64_w,i32_w]
     rfl
    refine done_ (done_of HT_.out (by kernel_rfl)) ?_
    try go_wp2
    go_ret
    exact ⟨by first|rfl|(simp [errW_none,errW_some] <;> rfl)|(simp [*,errW_none,errW_some] <;> rfl),by repeat (first|(with_reducible first|exact HB.out|apply ba_|apply bn_|apply bd_|refine below_set ?_ GE339.out)|exact HB.out)⟩
   replace c14:=Bool.eq_false_iff.mpr c14
   subst c14
   have H1 : (some false) = some r:=by rw [if_neg (show ¬ (false = true) by decide)] at H;exact H
   clear H
   have H:=H1
   clear H1
   obtain rfl:=Option.some.inj H
   go_enter Try.func4,Try.ntmps4
   try go_wp2_with (first|((with_reducible refine gate_dst (N:=3) rfl ?_);refine box_event ?hg (N:=3) ?hd (cs:=#[.int .i64 a1_0,.int .i64 a1_1]) (t:=30) ?hr ?_;(case hd=>rfl);(case hg=>rfl);(case hr=>first|(go_simp;done)|(go_simp;rfl));intro gb339 hg w44 hbox hb;have n0_:=Aside0.mk (below_step (by repeat (first|(with_reducible first|exact HB.out|apply ba_|apply bn_|apply bd_)|exact HB.out)) hb);have n1_:=Aside0.mk (hbox);have n2_:=Aside0.mk ((by rw [hg];exact (below_size (by repeat (first|(with_reducible first|exact HB.out|apply ba_|apply bn_|apply bd_)|exact HB.out))) : w.heap.size ≤ gb339));have n3_:=Aside0.mk ((by rw [hg];exact (below_size (by repeat (first|(with_reducible first|exact HB.out|apply ba_|apply bn_|apply bd_)|exact HB.out))) : w.heap.size ≤ gb339));clear HB;have HB:=n0_;have BK339:=n1_;have GW339:=n2_;have GE339:=n3_;clear n0_ n1_ n2_ n3_;clear hb hbox hg;have hcz45_0 : w44.cell? ⟨gb339,0,none⟩ = some (.int .i64 a1_0):=(blk_cell BK339.out 0).trans rfl;have hcz45_1 : w44.cell? ⟨gb339,1,none⟩ = some (.int .i64 a1_1):=(blk_cell BK339.out 1).trans rfl;have hfz45_0:=blk_frozen BK339.out 0;have hfz45_1:=blk_frozen BK339.out 1)|((with_reducible refine gate_callee (f:=14) rfl ?_);refine goesL_ (some 16) rfl rfl Try.func14 (by kernel_rfl) rfl #[.slice A0 l0.length c0,.agg #[.int .i64 a1_0,.int .i64 a1_1]] rfl (by (try simp only [List.map_toArray,List.map_cons,List.map_nil]);first|done|rfl|(simp only [List.length_drop,List.length_take];rfl)) ?_;(with_reducible refine (convex_Inside.calls k _ _ l0 a1_0 a1_1 t341 t342 _ ?side1 ?side2 A7.out).mono ?_);(case side1=>repeat (first|exact (Kd.C_below HR0.out HB.out)|(with_reducible refine Kd.C_alloc ?_ _)|(with_reducible refine Kd.C_drewN ?_ _)|(with_reducible refine Kd.C_drew ?_)));(case side2=>exact HC0.out);rintro e w46 ⟨rfl,hb⟩;refine ⟨_,rfl,?_⟩;have n0_:=Aside0.mk (blk_below (g:=gb339) (o:=.cells #[.int .i64 a1_0,.int .i64 a1_1] 30 (0,0)) (by (with_reducible repeat (first|refine kn_ ?_ _|refine kd_ ?_|refine ka_ ?_ _));exact BK339.out) hb);have n1_:=Aside0.mk (below_step (by repeat (first|(with_reducible first|exact HB.out|apply ba_|apply bn_|apply bd_|refine below_set ?_ GE339.out)|exact HB.out)) hb);clear BK339;clear HB;have BK339:=n0_;have HB:=n1_;clear n0_ n1_;(try clear hb);(try clear hb2);(try clear hk);(try clear hi);have hcz47_0 : w46.cell? ⟨gb339,0,none⟩ = some (.int .i64 a1_0):=(blk_cell BK339.out 0).trans rfl;have hcz47_1 : w46.cell? ⟨gb339,1,none⟩ = some (.int .i64 a1_1):=(blk_cell BK339.out 1).trans rfl;have hfz47_0:=blk_frozen BK339.out 0;have hfz47_1:=blk_frozen BK339.out 1)|((with_reducible refine gate_callee (f:=15) rfl ?_);refine goesL_ (some 22) rfl rfl Try.func15 (by kernel_rfl) rfl #[.slice A0 l0.length c0,.agg #[.int .i64 a1_0,.int .i64 a1_1]] rfl (by (try simp only [List.map_toArray,List.map_cons,List.map_nil]);first|done|rfl|(simp only [List.length_drop,List.length_take];rfl)) ?_;(with_reducible refine (garmentref14_Inside.calls k _ _ l0 a1_0 a1_1 t343 t344 _ ?side1 ?side2 A8.out).mono ?_);(case side1=>repeat (first|exact (Kd.C_below HR0.out HB.out)|(with_reducible refine Kd.C_alloc ?_ _)|(with_reducible refine Kd.C_drewN ?_ _)|(with_reducible refine Kd.C_drew ?_)));(case side2=>exact HC0.out);rintro e w48 ⟨rfl,hb⟩;refine ⟨_,rfl,?_⟩;have n0_:=Aside0.mk (blk_below (g:=gb339) (o:=.cells #[.int .i64 a1_0,.int .i64 a1_1] 30 (0,0)) (by (with_reducible repeat (first|refine kn_ ?_ _|refine kd_ ?_|refine ka_ ?_ _));exact BK339.out) hb);have n1_:=Aside0.mk (below_step (by repeat (first|(with_reducible first|exact HB.out|apply ba_|apply bn_|apply bd_|refine below_set ?_ GE339.out)|exact HB.out)) hb);clear BK339;clear HB;have BK339:=n0_;have HB:=n1_;clear n0_ n1_;(try clear hb);(try clear hb2);(try clear hk);(try clear hi)))
   have n0_:=Aside0.mk (kd_ BK339.out)
   have n1_:=Aside0.mk (bd_ HB.out)
   clear BK339
   clear HB
   have BK339:=n0_
   have HB:=n1_
   clear n0_ n1_
   refine start_ (n:=28) (S:=fun w'=>True) (ds:=[]) #[false,false,false,false,false,false,false,false,false,false,false,false,false,false,false,false,false,false,false,false,false,false,false,false,false,false,false,false] (by kernel_rfl) rfl rfl trivial (fun hHeld=>?_);refine with_tabW garmentlaw14_ConvexInsides.tab5 garmentlaw14_ConvexInsides.bits5 (fun HT_ HW_=>?_)
   generalize w48.drew = w49 at BK339 HB hHeld ⊢
   refine pure_ (i:=0) (N:=some 25) (v:=?_) (a':=?_) #[true,false,false,false,false,false,false,false,false,false,false,false,false,false,false,false,false,false,false,false,false,false,false,false,false,false,false,false] rfl rfl (any_of HT_.out (by kernel_rfl)) (fun _ _ _ h=>h) (Or.inl ⟨by rfl,?_⟩) ?_ ?_
   rotate_left
   ·
    intro w'
    go_simp
    with_reducible rfl
   rotate_left
   ·
    simp only [Act.put,la_,l0_,l1_,i64_w,i32_w]
    rfl
   refine pure_ (i:=1) (N:=some 26) (v:=?_) (a':=?_) #[true,true,false,false,false,false,false,false,false,false,false,false,false,false,false,false,false,false,false,false,false,false,false,false,false,false,false,false] rfl rfl (any_of HT_.out (by kernel_rfl)) (fun _ _ _ h=>h) (Or.inl ⟨by rfl,?_⟩) ?_ ?_
   rotate_left
   ·
    intro w'
    go_simp
    with_reducible rfl
   rotate_left
   ·
    simp only [Act.put,la_,l0_,l1_,i64_w,i32_w]
    rfl
   refine pure_ (i:=2) (N:=some 27) (v:=?_) (a':=?_) #[true,true,true,false,false,false,false,false,false,false,false,false,false,false,false,false,false,false,false,false,false,false,false,false,false,false,false,false] rfl rfl (any_of HT_.out (by kernel_rfl)) (fun _ _ _ h=>h) (Or.inl ⟨by rfl,?_⟩) ?_ ?_
   rotate_left
   ·
    intro w'
    go_simp
    with_reducible rfl
   rotate_left
   ·
    simp only [Act.put,la_,l0_,l1_,i64_w,i32_w]
    rfl
   refine pure_ (i:=3) (N:=some 28) (v:=?_) (a':=?_) #[true,true,true,true,false,false,false,false,false,false,false,false,false,false,false,false,false,false,false,false,false,false,false,false,false,false,false,false] rfl rfl (any_of HT_.out (by kernel_rfl)) (fun _ _ _ h=>h) (Or.inl ⟨by rfl,?_⟩) ?_ ?_
   rotate_left
   ·
    intro w'
    go_simp
    with_reducible rfl
   rotate_left
   ·
    simp only [Act.put,la_,l0_,l1_,i64_w,i32_w]
    rfl
   refine pure_ (i:=4) (N:=some 29) (v:=?_) (a':=?_) #[true,true,true,true,true,false,false,false,false,false,false,false,false,false,false,false,false,false,false,false,false,false,false,false,false,false,false,false] rfl rfl (any_of HT_.out (by kernel_rfl)) (fun _ _ _ h=>h) (Or.inl ⟨by rfl,?_⟩) ?_ ?_
   rotate_left
   ·
    intro w'
    go_simp
    with_reducible rfl
   rotate_left
   ·
    simp only [Act.put,la_,l0_,l1_,i64_w,i32_w]
    rfl
   refine pure_ (i:=5) (N:=some 30) (v:=?_) (a':=?_) #[true,true,true,true,true,true,false,false,false,false,false,false,false,false,false,false,false,false,false,false,false,false,false,false,false,false,false,false] rfl rfl (any_of HT_.out (by kernel_rfl)) (fun _ _ _ h=>h) (Or.inl ⟨by rfl,?_⟩) ?_ ?_
   rotate_left
   ·
    intro w'
    go_simp
    with_reducible rfl
   rotate_left
   ·
    simp only [Act.put,la_,l0_,l1_,i64_w,i32_w]
    rfl
   refine pure_ (i:=6) (N:=some 31) (v:=?_) (a':=?_) #[true,true,true,true,true,true,true,false,false,false,false,false,false,false,false,false,false,false,false,false,false,false,false,false,false,false,false,false] rfl rfl (any_of HT_.out (by kernel_rfl)) (fun _ _ _ h=>h) (Or.inl ⟨by rfl,?_⟩) ?_ ?_
   rotate_left
   ·
    intro w'
    go_simp
    with_reducible rfl
   rotate_left
   ·
    simp only [Act.put,la_,l0_,l1_,i64_w,i32_w]
    rfl
   refine pure_ (i:=7) (N:=some 32) (v:=?_) (a':=?_) #[true,true,true,true,true,true,true,true,false,false,false,false,false,false,false,false,false,false,false,false,false,false,false,false,false,false,false,false] rfl rfl (any_of HT_.out (by kernel_rfl)) (fun _ _ _ h=>h) (Or.inl ⟨by rfl,?_⟩) ?_ ?_
   rotate_left
   ·
    intro w'
    go_simp
    with_reducible rfl
   rotate_left
   ·
    simp only [Act.put,la_,l0_,l1_,i64_w,i32_w]
    rfl
   refine pure_ (i:=8) (N:=some 33) (v:=?_) (a':=?_) #[true,true,true,true,true,true,true,true,true,false,false,false,false,false,false,false,false,false,false,false,false,false,false,false,false,false,false,false] rfl rfl (any_of HT_.out (by kernel_rfl)) (fun _ _ _ h=>h) (Or.inl ⟨by rfl,?_⟩) ?_ ?_
   rotate_left
   ·
    intro w'
    go_simp
    with_reducible rfl
   rotate_left
   ·
    simp only [Act.put,la_,l0_,l1_,i64_w,i32_w]
    rfl
   refine pure_ (i:=9) (N:=some 34) (v:=?_) (a':=?_) #[true,true,true,true,true,true,true,true,true,true,false,false,false,false,false,false,false,false,false,false,false,false,false,false,false,false,false,false] rfl rfl (any_of HT_.out (by kernel_rfl)) (fun _ _ _ h=>h) (Or.inl ⟨by rfl,?_⟩) ?_ ?_
   rotate_left
   ·
    intro w'
    go_simp
    with_reducible rfl
   rotate_left
   ·
    simp only [Act.put,la_,l0_,l1_,i64_w,i32_w]
    rfl
   refine pure_ (i:=11) (N:=some 36) (v:=?_) (a':=?_) #[true,true,true,true,true,true,true,true,true,true,false,true,false,false,false,false,false,false,false,false,false,false,false,false,false,false,false,false] rfl rfl (any_of HT_.out (by kernel_rfl)) (fun _ _ _ h=>h) (Or.inl ⟨by rfl,?_⟩) ?_ ?_
   rotate_left
   ·
    intro w'
    go_simp
    with_reducible rfl
   rotate_left
   ·
    simp only [Act.put,la_,l0_,l1_,i64_w,i32_w]
    rfl
   refine one_ (i:=10) (N:=some 35) #[true,true,true,true,true,true,true,true,true,true,true,true,false,false,false,false,false,false,false,false,false,false,false,false,false,false,false,false] rfl rfl (one_of HT_.out (by kernel_rfl)) (by decide) (fun K hK=>?_)
   refine goes_ Try.func16 (by kernel_rfl) rfl #[.slice A0 l0.length c0] (by rfl) rfl rfl (by (try simp only [List.map_toArray,List.map_cons,List.map_nil]);first|done|rfl|(simp only [List.length_drop,List.length_take];rfl)) ?_
   with_reducible refine (convex_Negate.calls k _ _ l0 t345 _ ?side1 ?side2 A11.out).mono ?_
   (case side1=>repeat (first|exact (Kd.C_below HR0.out HB.out)|(with_reducible refine Kd.C_alloc ?_ _)|(with_reducible refine Kd.C_drewN ?_ _)|(with_reducible refine Kd.C_drew ?_)))
   (case side2=>exact HC0.out)
   rintro e w50 ⟨v346,rfl,ho0,hb⟩
   refine ⟨_,rfl,?_⟩
   have n0_:=Aside0.mk (Kd.R_lower (Kd.R_newB ho0 (g:=gb339) (o:=.cells #[.int .i64 a1_0,.int .i64 a1_1] 30 (0,0)) (by (with_reducible repeat (first|refine kn_ ?_ _|refine kd_ ?_|refine ka_ ?_ _));exact BK339.out)) (below_size (by repeat (first|(with_reducible first|exact HB.out|apply ba_|apply bn_|apply bd_|refine below_set ?_ GE339.out)|exact HB.out))))
   have n1_:=Aside0.mk (blk_below (g:=gb339) (o:=.cells #[.int .i64 a1_0,.int .i64 a1_1] 30 (0,0)) (by (with_reducible repeat (first|refine kn_ ?_ _|refine kd_ ?_|refine ka_ ?_ _));exact BK339.out) hb)
   have n2_:=Aside0.mk (below_step (by repeat (first|(with_reducible first|exact HB.out|apply ba_|apply bn_|apply bd_|refine below_set ?_ GE339.out)|exact HB.out)) hb)
   clear BK339
   clear HB
   have HO347:=n0_
   have BK339:=n1_
   have HB:=n2_
   clear n0_ n1_ n2_
   (try clear hb)
   (try clear hb2)
   (try clear hk)
   (try clear hi)
   (try clear ho0)
   refine hK.out _ _ trivial (fun hHeld=>?_)
   clear hK K
   refine norm_ (a':=?_) ?_ ?_
   rotate_left
   ·
    show Act.put _ (some 35) _ = _
    simp only [Act.put,la_,l0_,l1_,i64_w,i32_w]
    rfl
   refine one_ (i:=12) (N:=some 37) #[true,true,true,true,true,true,true,true,true,true,true,true,true,false,false,false,false,false,false,false,false,false,false,false,false,false,false,false] rfl rfl (one_of HT_.out (by kernel_rfl)) (by decide) (fun K hK=>?_)
   refine goes_ Try.func17 (by kernel_rfl) rfl #[.slice A0 l0.length c0] (by rfl) rfl rfl (by (try simp only [List.map_toArray,List.map_cons,List.map_nil]);first|done|rfl|(simp only [List.length_drop,List.length_take];rfl)) ?_
   with_reducible refine (garmentref14_Negate.calls k _ _ l0 t348 _ ?side1 ?side2 A12.out).mono ?_
   (case side1=>repeat (first|exact (Kd.C_below HR0.out HB.out)|(with_reducible refine Kd.C_alloc ?_ _)|(with_reducible refine Kd.C_drewN ?_ _)|(with_reducible refine Kd.C_drew ?_)))
   (case side2=>exact HC0.out)
   rintro e w51 ⟨v349,rfl,ho0,hb⟩
   refine ⟨_,rfl,?_⟩
   have n0_:=Aside0.mk (Kd.R_elder' (by (with_reducible repeat (first|apply ra_|apply rn_|apply rd_));exact HO347.out) (Kd.R_base ho0) hb)
   have n1_:=Aside0.mk (Kd.R_lower (Kd.R_newB (Kd.R_new' ho0 (Kd.R_lt (by (with_reducible repeat (first|apply ra_|apply rn_|apply rd_));exact HO347.out))) (g:=gb339) (o:=.cells #[.int .i64 a1_0,.int .i64 a1_1] 30 (0,0)) (by (with_reducible repeat (first|refine kn_ ?_ _|refine kd_ ?_|refine ka_ ?_ _));exact BK339.out)) (below_size (by repeat (first|(with_reducible first|exact HB.out|apply ba_|apply bn_|apply bd_|refine below_set ?_ GE339.out)|exact HB.out))))
   have n2_:=Aside0.mk (blk_below (g:=gb339) (o:=.cells #[.int .i64 a1_0,.int .i64 a1_1] 30 (0,0)) (by (with_reducible repeat (first|refine kn_ ?_ _|refine kd_ ?_|refine ka_ ?_ _));exact BK339.out) hb)
   have n3_:=Aside0.mk (below_step (by repeat (first|(with_reducible first|exact HB.out|apply ba_|apply bn_|apply bd_|refine below_set ?_ GE339.out)|exact HB.out)) hb)
   clear HO347
   clear BK339
   clear HB
   have HO347:=n0_
   have HO350:=n1_
   have BK339:=n2_
   have HB:=n3_
   clear n0_ n1_ n2_ n3_
   (try clear hb)
   (try clear hb2)
   (try clear hk)
   (try clear hi)
   (try clear ho0)
   obtain ⟨Ao52,co52,eo52⟩:=Kd.R_slice HO347.out
   (first|subst eo52|(injection eo52 with f1_ f2_ f3_;have f4_:=f1_.symm;have f5_:=f3_.symm;clear f1_ f2_ f3_;subst f4_;subst f5_))
   obtain ⟨Ao53,co53,eo53⟩:=Kd.R_slice HO350.out
   (first|subst eo53|(injection eo53 with f1_ f2_ f3_;have f4_:=f1_.symm;have f5_:=f3_.symm;clear f1_ f2_ f3_;subst f4_;subst f5_))
   refine hK.out _ _ trivial (fun hHeld=>?_)
   clear hK K
   refine norm_ (a':=?_) ?_ ?_
   rotate_left
   ·
    show Act.put _ (some 37) _ = _
    simp only [Act.put,la_,l0_,l1_,i64_w,i32_w]
    rfl
   refine one_ (i:=13) (N:=some 38) #[true,true,true,true,true,true,true,true,true,true,true,true,true,true,false,false,false,false,false,false,false,false,false,false,false,false,false,false] rfl rfl (one_of HT_.out (by kernel_rfl)) (by decide) (fun K hK=>?_)
   refine goes_ Try.func13 (by kernel_rfl) rfl #[.slice Ao52 t345.length co52,.slice Ao53 t348.length co53] (by rfl) rfl rfl (by (try simp only [List.map_toArray,List.map_cons,List.map_nil]);first|done|rfl|(simp only [List.length_drop,List.length_take];rfl)) ?_
   with_reducible refine (garmentref11_Same.calls k _ _ t345 _ _ t348 false _ ?side1 ?side2 ?side3 ?side4 A13.out).mono ?_
   (case side1=>repeat (first|exact (Kd.R_reads' HO347.out).2.2|(with_reducible refine Kd.C_alloc ?_ _)|(with_reducible refine Kd.C_drewN ?_ _)|(with_reducible refine Kd.C_drew ?_)))
   (case side2=>exact (Kd.R_reads' HO347.out).2.1)
   (case side3=>repeat (first|exact (Kd.R_reads' HO350.out).2.2|(with_reducible refine Kd.C_alloc ?_ _)|(with_reducible refine Kd.C_drewN ?_ _)|(with_reducible refine Kd.C_drew ?_)))
   (case side4=>exact (Kd.R_reads' HO350.out).2.1)
   rintro e w' ⟨rfl,⟨nd,rfl⟩⟩
   refine ⟨_,rfl,?_⟩
   refine hK.out _ _ trivial (fun hHeld=>?_)
   clear hK K
   refine norm_ (a':=?_) ?_ ?_
   rotate_left
   ·
    show Act.put _ (some 38) _ = _
    simp only [Act.put,la_,l0_,l1_,i64_w,i32_w]
    rfl
   refine pure_ (i:=14) (N:=some 39) (v:=?_) (a':=?_) #[true,true,true,true,true,true,true,true,true,true,true,true,true,true,true,false,false,false,false,false,false,false,false,false,false,false,false,false] rfl rfl (any_of HT_.out (by kernel_rfl)) (fun _ _ _ h=>h) (Or.inl ⟨by rfl,?_⟩) ?_ ?_
   rotate_left
   ·
    intro w'
    go_simp
    with_reducible rfl
   rotate_left
   ·
    simp only [Act.put,la_,l0_,l1_,i64_w,i32_w]
    rfl
   refine pure_ (i:=15) (N:=some 40) (v:=?_) (a':=?_) #[true,true,true,true,true,true,true,true,true,true,true,true,true,true,true,true,false,false,false,false,false,false,false,false,false,false,false,false] rfl rfl (any_of HT_.out (by kernel_rfl)) (fun _ _ _ h=>h) (Or.inl ⟨by rfl,?_⟩) ?_ ?_
   rotate_left
   ·
    intro w'
    go_simp
    with_reducible rfl
   rotate_left
   ·
    simp only [Act.put,la_,l0_,l1_,i64_w,i32_w]
    rfl
   refine pure_ (i:=16) (N:=some 41) (v:=undef) (a':=?_) #[true,true,true,true,true,true,true,true,true,true,true,true,true,true,true,true,true,false,false,false,false,false,false,false,false,false,false,false] rfl rfl (any_of HT_.out (by kernel_rfl)) (fun _ _ _ h=>h) (Or.inr ⟨by rfl,rfl⟩) ?_ ?_
   rotate_left
   ·
    simp only [Act.put,la_,l0_,l1_,i64_w,i32_w]
    rfl
   refine pure_ (i:=17) (N:=some 42) (v:=undef) (a':=?_) #[true,true,true,true,true,true,true,true,true,true,true,true,true,true,true,true,true,true,false,false,false,false,false,false,false,false,false,false] rfl rfl (any_of HT_.out (by kernel_rfl)) (fun _ _ _ h=>h) (Or.inr ⟨by rfl,rfl⟩) ?_ ?_
   rotate_left
   ·
    simp only [Act.put,la_,l0_,l1_,i64_w,i32_w]
    rfl
   refine pure_ (i:=18) (N:=some 43) (v:=undef) (a':=?_) #[true,true,true,true,true,true,true,true,true,true,true,true,true,true,true,true,true,true,true,false,false,false,false,false,false,false,false,false] rfl rfl (any_of HT_.out (by kernel_rfl)) (fun _ _ _ h=>h) (Or.inr ⟨by rfl,rfl⟩) ?_ ?_
   rotate_left
   ·
    simp only [Act.put,la_,l0_,l1_,i64_w,i32_w]
    rfl
   refine pure_ (i:=19) (N:=some 44) (v:=undef) (a':=?_) #[true,true,true,true,true,true,true,true,true,true,true,true,true,true,true,true,true,true,true,true,false,false,false,false,false,false,false,false] rfl rfl (any_of HT_.out (by kernel_rfl)) (fun _ _ _ h=>h) (Or.inr ⟨by rfl,rfl⟩) ?_ ?_
   rotate_left
   ·
    simp only [Act.put,la_,l0_,l1_,i64_w,i32_w]
    rfl
   refine pure_ (i:=20) (N:=some 45) (v:=undef) (a':=?_) #[true,true,true,true,true,true,true,true,true,true,true,true,true,true,true,true,true,true,true,true,true,false,false,false,false,false,false,false] rfl rfl (any_of HT_.out (by kernel_rfl)) (fun _ _ _ h=>h) (Or.inr ⟨by rfl,rfl⟩) ?_ ?_
   rotate_left
   ·
    simp only [Act.put,la_,l0_,l1_,i64_w,i32_w]
    rfl
   refine pure_ (i:=21) (N:=some 46) (v:=undef) (a':=?_) #[true,true,true,true,true,true,true,true,true,true,true,true,true,true,true,true,true,true,true,true,true,true,false,false,false,false,false,false] rfl rfl (any_of HT_.out (by kernel_rfl)) (fun _ _ _ h=>h) (Or.inr ⟨by rfl,rfl⟩) ?_ ?_
   rotate_left
   ·
    simp only [Act.put,la_,l0_,l1_,i64_w,i32_w]
    rfl
   refine pure_ (i:=22) (N:=some 47) (v:=undef) (a':=?_) #[true,true,true,true,true,true,true,true,true,true,true,true,true,true,true,true,true,true,true,true,true,true,true,false,false,false,false,false] rfl rfl (any_of HT_.out (by kernel_rfl)) (fun _ _ _ h=>h) (Or.inr ⟨by rfl,rfl⟩) ?_ ?_
   rotate_left
   ·
    simp only [Act.put,la_,l0_,l1_,i64_w,i32_w]
    rfl
   refine pure_ (i:=23) (N:=some 48) (v:=?_) (a':=?_) #[true,true,true,true,true,true,true,true,true,true,true,true,true,true,true,true,true,true,true,true,true,true,true,true,false,false,false,false] rfl rfl (any_of HT_.out (by kernel_rfl)) (fun _ _ _ h=>h) (Or.inl ⟨by rfl,?_⟩) ?_ ?_
   rotate_left
   ·
    intro w'
    go_simp
    with_reducible rfl
   rotate_left
   ·
    simp only [Act.put,la_,l0_,l1_,i64_w,i32_w]
    rfl
   refine pure_ (i:=24) (N:=some 49) (v:=?_) (a':=?_) #[true,true,true,true,true,true,true,true,true,true,true,true,true,true,true,true,true,true,true,true,true,true,true,true,true,false,false,false] rfl rfl (any_of HT_.out (by kernel_rfl)) (fun _ _ _ h=>h) (Or.inl ⟨by rfl,?_⟩) ?_ ?_
   rotate_left
   ·
    intro w'
    go_simp
    with_reducible rfl
   rotate_left
   ·
    simp only [Act.put,la_,l0_,l1_,i64_w,i32_w]
    rfl
   refine pure_ (i:=25) (N:=some 50) (v:=undef) (a':=?_) #[true,true,true,true,true,true,true,true,true,true,true,true,true,true,true,true,true,true,true,true,true,true,true,true,true,true,false,false] rfl rfl (any_of HT_.out (by kernel_rfl)) (fun _ _ _ h=>h) (Or.inr ⟨by rfl,rfl⟩) ?_ ?_
   rotate_left
   ·
    simp only [Act.put,la_,l0_,l1_,i64_w,i32_w]
    rfl
   refine pure_ (i:=26) (N:=some 51) (v:=?_) (a':=?_) #[true,true,true,true,true,true,true,true,true,true,true,true,true,true,true,true,true,true,true,true,true,true,true,true,true,true,true,false] rfl rfl (any_of HT_.out (by kernel_rfl)) (fun _ _ _ h=>h) (Or.inl ⟨by rfl,?_⟩) ?_ ?_
   rotate_left
   ·
    intro w'
    go_simp
    with_reducible rfl
   rotate_left
   ·
    simp only [Act.put,la_,l0_,l1_,i64_w,i32_w]
    rfl
   refine pure_ (i:=27) (N:=some 4) (v:=?_) (a':=?_) #[true,true,true,true,true,true,true,true,true,true,true,true,true,true,true,true,true,true,true,true,true,true,true,true,true,true,true,true] rfl rfl (any_of HT_.out (by kernel_rfl)) (fun _ _ _ h=>h) (Or.inl ⟨by rfl,?_⟩) ?_ ?_
   rotate_left
   ·
    intro w'
    go_simp
    with_reducible rfl
   rotate_left
   ·
    simp only [Act.put,la_,l0_,l1_,i64_w,i32_w]
    rfl
   refine done_ (done_of HT_.out (by kernel_rfl)) ?_
   try go_wp2
   go_ret
   exact ⟨by first|rfl|(simp [errW_none,errW_some] <;> rfl)|(simp [*,errW_none,errW_some] <;> rfl),by repeat (first|(with_reducible first|exact HB.out|apply ba_|apply bn_|apply bd_|refine below_set ?_ GE339.out)|exact HB.out)⟩
  rw [if_neg c10] at H
  have c10b0 : (t342 == t344) = false:=beq_eq_false_iff_ne.mpr c10
  have c10b1 : (t342 != t344) = true:=bne_iff_ne.mpr c10
  obtain rfl:=Option.some.inj H
  go_enter Try.func4,Try.ntmps4
  try go_wp2_with (first|((with_reducible refine gate_dst (N:=3) rfl ?_);refine box_event ?hg (N:=3) ?hd (cs:=#[.int .i64 a1_0,.int .i64 a1_1]) (t:=30) ?hr ?_;(case hd=>rfl);(case hg=>rfl);(case hr=>first|(go_simp;done)|(go_simp;rfl));intro gb339 hg w54 hbox hb;have n0_:=Aside0.mk (below_step (by repeat (first|(with_reducible first|exact HB.out|apply ba_|apply bn_|apply bd_)|exact HB.out)) hb);have n1_:=Aside0.mk (hbox);have n2_:=Aside0.mk ((by rw [hg];exact (below_size (by repeat (first|(with_reducible first|exact HB.out|apply ba_|apply bn_|apply bd_)|exact HB.out))) : w.heap.size ≤ gb339));have n3_:=Aside0.mk ((by rw [hg];exact (below_size (by repeat (first|(with_reducible first|exact HB.out|apply ba_|apply bn_|apply bd_)|exact HB.out))) : w.heap.size ≤ gb339));clear HB;have HB:=n0_;have BK339:=n1_;have GW339:=n2_;have GE339:=n3_;clear n0_ n1_ n2_ n3_;clear hb hbox hg;have hcz55_0 : w54.cell? ⟨gb339,0,none⟩ = some (.int .i64 a1_0):=(blk_cell BK339.out 0).trans rfl;have hcz55_1 : w54.cell? ⟨gb339,1,none⟩ = some (.int .i64 a1_1):=(blk_cell BK339.out 1).trans rfl;have hfz55_0:=blk_frozen BK339.out 0;have hfz55_1:=blk_frozen BK339.out 1)|((with_reducible refine gate_callee (f:=14) rfl ?_);refine goesL_ (some 16) rfl rfl Try.func14 (by kernel_rfl) rfl #[.slice A0 l0.length c0,.agg #[.int .i64 a1_0,.int .i64 a1_1]] rfl (by (try simp only [List.map_toArray,List.map_cons,List.map_nil]);first|done|rfl|(simp only [List.length_drop,List.length_take];rfl)) ?_;(with_reducible refine (convex_Inside.calls k _ _ l0 a1_0 a1_1 t341 t342 _ ?side1 ?side2 A7.out).mono ?_);(case side1=>repeat (first|exact (Kd.C_below HR0.out HB.out)|(with_reducible refine Kd.C_alloc ?_ _)|(with_reducible refine Kd.C_drewN ?_ _)|(with_reducible refine Kd.C_drew ?_)));(case side2=>exact HC0.out);rintro e w56 ⟨rfl,hb⟩;refine ⟨_,rfl,?_⟩;have n0_:=Aside0.mk (blk_below (g:=gb339) (o:=.cells #[.int .i64 a1_0,.int .i64 a1_1] 30 (0,0)) (by (with_reducible repeat (first|refine kn_ ?_ _|refine kd_ ?_|refine ka_ ?_ _));exact BK339.out) hb);have n1_:=Aside0.mk (below_step (by repeat (first|(with_reducible first|exact HB.out|apply ba_|apply bn_|apply bd_|refine below_set ?_ GE339.out)|exact HB.out)) hb);clear BK339;clear HB;have BK339:=n0_;have HB:=n1_;clear n0_ n1_;(try clear hb);(try clear hb2);(try clear hk);(try clear hi);have hcz57_0 : w56.cell? ⟨gb339,0,none⟩ = some (.int .i64 a1_0):=(blk_cell BK339.out 0).trans rfl;have hcz57_1 : w56.cell? ⟨gb339,1,none⟩ = some (.int .i64 a1_1):=(blk_cell BK339.out 1).trans rfl;have hfz57_0:=blk_frozen BK339.out 0;have hfz57_1:=blk_frozen BK339.out 1)|((with_reducible refine gate_callee (f:=15) rfl ?_);refine goesL_ (some 22) rfl rfl Try.func15 (by kernel_rfl) rfl #[.slice A0 l0.length c0,.agg #[.int .i64 a1_0,.int .i64 a1_1]] rfl (by (try simp only [List.map_toArray,List.map_cons,List.map_nil]);first|done|rfl|(simp only [List.length_drop,List.length_take];rfl)) ?_;(with_reducible refine (garmentref14_Inside.calls k _ _ l0 a1_0 a1_1 t343 t344 _ ?side1 ?side2 A8.out).mono ?_);(case side1=>repeat (first|exact (Kd.C_below HR0.out HB.out)|(with_reducible refine Kd.C_alloc ?_ _)|(with_reducible refine Kd.C_drewN ?_ _)|(with_reducible refine Kd.C_drew ?_)));(case side2=>exact HC0.out);rintro e w58 ⟨rfl,hb⟩;refine ⟨_,rfl,?_⟩;have n0_:=Aside0.mk (blk_below (g:=gb339) (o:=.cells #[.int .i64 a1_0,.int .i64 a1_1] 30 (0,0)) (by (with_reducible repeat (first|refine kn_ ?_ _|refine kd_ ?_|refine ka_ ?_ _));exact BK339.out) hb);have n1_:=Aside0.mk (below_step (by repeat (first|(with_reducible first|exact HB.out|apply ba_|apply bn_|apply bd_|refine below_set ?_ GE339.out)|exact HB.out)) hb);clear BK339;clear HB;have BK339:=n0_;have HB:=n1_;clear n0_ n1_;(try clear hb);(try clear hb2);(try clear hk);(try clear hi)))
  have n0_:=Aside0.mk (kd_ BK339.out)
  have n1_:=Aside0.mk (bd_ HB.out)
  clear BK339
  clear HB
  have BK339:=n0_
  have HB:=n1_
  clear n0_ n1_
  refine start_ (n:=28) (S:=fun w'=>True) (ds:=[]) #[false,false,false,false,false,false,false,false,false,false,false,false,false,false,false,false,false,false,false,false,false,false,false,false,false,false,false,false] (by kernel_rfl) rfl rfl trivial (fun hHeld=>?_);refine with_tabW garmentlaw14_ConvexInsides.tab5 garmentlaw14_ConvexInsides.bits5 (fun HT_ HW_=>?_)
  generalize w58.drew = w59 at BK339 HB hHeld ⊢
  refine pure_ (i:=0) (N:=some 25) (v:=?_) (a':=?_) #[true,false,false,false,false,false,false,false,false,false,false,false,false,false,false,false,false,false,false,false,false,false,false,false,false,false,false,false] rfl rfl (any_of HT_.out (by kernel_rfl)) (fun _ _ _ h=>h) (Or.inl ⟨by rfl,?_⟩) ?_ ?_
  rotate_left
  ·
   intro w'
   go_simp
   with_reducible rfl
  rotate_left
  ·
   simp only [Act.put,la_,l0_,l1_,i64_w,i32_w]
   rfl
  refine pure_ (i:=1) (N:=some 26) (v:=?_) (a':=?_) #[true,true,false,false,false,false,false,false,false,false,false,false,false,false,false,false,false,false,false,false,false,false,false,false,false,false,false,false] rfl rfl (any_of HT_.out (by kernel_rfl)) (fun _ _ _ h=>h) (Or.inl ⟨by rfl,?_⟩) ?_ ?_
  rotate_left
  ·
   intro w'
   go_simp
   with_reducible rfl
  rotate_left
  ·
   simp only [Act.put,la_,l0_,l1_,i64_w,i32_w]
   rfl
  refine pure_ (i:=2) (N:=some 27) (v:=?_) (a':=?_) #[true,true,true,false,false,false,false,false,false,false,false,false,false,false,false,false,false,false,false,false,false,false,false,false,false,false,false,false] rfl rfl (any_of HT_.out (by kernel_rfl)) (fun _ _ _ h=>h) (Or.inl ⟨by rfl,?_⟩) ?_ ?_
  rotate_left
  ·
   intro w'
   go_simp
   with_reducible rfl
  rotate_left
  ·
   simp only [Act.put,la_,l0_,l1_,i64_w,i32_w]
   rfl
  refine pure_ (i:=3) (N:=some 28) (v:=?_) (a':=?_) #[true,true,true,true,false,false,false,false,false,false,false,false,false,false,false,false,false,false,false,false,false,false,false,false,false,false,false,false] rfl rfl (any_of HT_.out (by kernel_rfl)) (fun _ _ _ h=>h) (Or.inl ⟨by rfl,?_⟩) ?_ ?_
  rotate_left
  ·
   intro w'
   go_simp
   with_reducible rfl
  rotate_left
  ·
   simp only [Act.put,la_,l0_,l1_,i64_w,i32_w]
   rfl
  refine pure_ (i:=4) (N:=some 29) (v:=?_) (a':=?_) #[true,true,true,true,true,false,false,false,false,false,false,false,false,false,false,false,false,false,false,false,false,false,false,false,false,false,false,false] rfl rfl (any_of HT_.out (by kernel_rfl)) (fun _ _ _ h=>h) (Or.inl ⟨by rfl,?_⟩) ?_ ?_
  rotate_left
  ·
   intro w'
   go_simp
   with_reducible rfl
  rotate_left
  ·
   simp only [Act.put,la_,l0_,l1_,i64_w,i32_w]
   rfl
  refine pure_ (i:=5) (N:=some 30) (v:=?_) (a':=?_) #[true,true,true,true,true,true,false,false,false,false,false,false,false,false,false,false,false,false,false,false,false,false,false,false,false,false,false,false] rfl rfl (any_of HT_.out (by kernel_rfl)) (fun _ _ _ h=>h) (Or.inl ⟨by rfl,?_⟩) ?_ ?_
  rotate_left
  ·
   intro w'
   go_simp
   with_reducible rfl
  rotate_left
  ·
   simp only [Act.put,la_,l0_,l1_,i64_w,i32_w]
   rfl
  refine pure_ (i:=6) (N:=some 31) (v:=?_) (a':=?_) #[true,true,true,true,true,true,true,false,false,false,false,false,false,false,false,false,false,false,false,false,false,false,false,false,false,false,false,false] rfl rfl (any_of HT_.out (by kernel_rfl)) (fun _ _ _ h=>h) (Or.inl ⟨by rfl,?_⟩) ?_ ?_
  rotate_left
  ·
   intro w'
   go_simp
   with_reducible rfl
  rotate_left
  ·
   simp only [Act.put,la_,l0_,l1_,i64_w,i32_w]
   rfl
  refine pure_ (i:=7) (N:=some 32) (v:=?_) (a':=?_) #[true,true,true,true,true,true,true,true,false,false,false,false,false,false,false,false,false,false,false,false,false,false,false,false,false,false,false,false] rfl rfl (any_of HT_.out (by kernel_rfl)) (fun _ _ _ h=>h) (Or.inl ⟨by rfl,?_⟩) ?_ ?_
  rotate_left
  ·
   intro w'
   go_simp
   with_reducible rfl
  rotate_left
  ·
   simp only [Act.put,la_,l0_,l1_,i64_w,i32_w]
   rfl
  refine pure_ (i:=8) (N:=some 33) (v:=?_) (a':=?_) #[true,true,true,true,true,true,true,true,true,false,false,false,false,false,false,false,false,false,false,false,false,false,false,false,false,false,false,false] rfl rfl (any_of HT_.out (by kernel_rfl)) (fun _ _ _ h=>h) (Or.inl ⟨by rfl,?_⟩) ?_ ?_
  rotate_left
  ·
   intro w'
   go_simp
   with_reducible rfl
  rotate_left
  ·
   simp only [Act.put,la_,l0_,l1_,i64_w,i32_w]
   rfl
  refine pure_ (i:=9) (N:=some 34) (v:=undef) (a':=?_) #[true,true,true,true,true,true,true,true,true,true,false,false,false,false,false,false,false,false,false,false,false,false,false,false,false,false,false,false] rfl rfl (any_of HT_.out (by kernel_rfl)) (fun _ _ _ h=>h) (Or.inr ⟨by rfl,rfl⟩) ?_ ?_
  rotate_left
  ·
   simp only [Act.put,la_,l0_,l1_,i64_w,i32_w]
   rfl
  refine pure_ (i:=10) (N:=some 35) (v:=undef) (a':=?_) #[true,true,true,true,true,true,true,true,true,true,true,false,false,false,false,false,false,false,false,false,false,false,false,false,false,false,false,false] rfl rfl (any_of HT_.out (by kernel_rfl)) (fun _ _ _ h=>h) (Or.inr ⟨by rfl,rfl⟩) ?_ ?_
  rotate_left
  ·
   simp only [Act.put,la_,l0_,l1_,i64_w,i32_w]
   rfl
  refine pure_ (i:=11) (N:=some 36) (v:=undef) (a':=?_) #[true,true,true,true,true,true,true,true,true,true,true,true,false,false,false,false,false,false,false,false,false,false,false,false,false,false,false,false] rfl rfl (any_of HT_.out (by kernel_rfl)) (fun _ _ _ h=>h) (Or.inr ⟨by rfl,rfl⟩) ?_ ?_
  rotate_left
  ·
   simp only [Act.put,la_,l0_,l1_,i64_w,i32_w]
   rfl
  refine pure_ (i:=12) (N:=some 37) (v:=undef) (a':=?_) #[true,true,true,true,true,true,true,true,true,true,true,true,true,false,false,false,false,false,false,false,false,false,false,false,false,false,false,false] rfl rfl (any_of HT_.out (by kernel_rfl)) (fun _ _ _ h=>h) (Or.inr ⟨by rfl,rfl⟩) ?_ ?_
  rotate_left
  ·
   simp only [Act.put,la_,l0_,l1_,i64_w,i32_w]
   rfl
  refine pure_ (i:=13) (N:=some 38) (v:=undef) (a':=?_) #[true,true,true,true,true,true,true,true,true,true,true,true,true,true,false,false,false,false,false,false,false,false,false,false,false,false,false,false] rfl rfl (any_of HT_.out (by kernel_rfl)) (fun _ _ _ h=>h) (Or.inr ⟨by rfl,rfl⟩) ?_ ?_
  rotate_left
  ·
   simp only [Act.put,la_,l0_,l1_,i64_w,i32_w]
   rfl
  refine pure_ (i:=14) (N:=some 39) (v:=?_) (a':=?_) #[true,true,true,true,true,true,true,true,true,true,true,true,true,true,true,false,false,false,false,false,false,false,false,false,false,false,false,false] rfl rfl (any_of HT_.out (by kernel_rfl)) (fun _ _ _ h=>h) (Or.inl ⟨by rfl,?_⟩) ?_ ?_
  rotate_left
  ·
   intro w'
   go_simp
   with_reducible rfl
  rotate_left
  ·
   simp only [Act.put,la_,l0_,l1_,i64_w,i32_w]
   rfl
  refine pure_ (i:=15) (N:=some 40) (v:=?_) (a':=?_) #[true,true,true,true,true,true,true,true,true,true,true,true,true,true,true,true,false,false,false,false,false,false,false,false,false,false,false,false] rfl rfl (any_of HT_.out (by kernel_rfl)) (fun _ _ _ h=>h) (Or.inl ⟨by rfl,?_⟩) ?_ ?_
  rotate_left
  ·
   intro w'
   go_simp
   with_reducible rfl
  rotate_left
  ·
   simp only [Act.put,la_,l0_,l1_,i64_w,i32_w]
   rfl
  refine pure_ (i:=16) (N:=some 41) (v:=undef) (a':=?_) #[true,true,true,true,true,true,true,true,true,true,true,true,true,true,true,true,true,false,false,false,false,false,false,false,false,false,false,false] rfl rfl (any_of HT_.out (by kernel_rfl)) (fun _ _ _ h=>h) (Or.inr ⟨by rfl,rfl⟩) ?_ ?_
  rotate_left
  ·
   simp only [Act.put,la_,l0_,l1_,i64_w,i32_w]
   rfl
  refine pure_ (i:=17) (N:=some 42) (v:=undef) (a':=?_) #[true,true,true,true,true,true,true,true,true,true,true,true,true,true,true,true,true,true,false,false,false,false,false,false,false,false,false,false] rfl rfl (any_of HT_.out (by kernel_rfl)) (fun _ _ _ h=>h) (Or.inr ⟨by rfl,rfl⟩) ?_ ?_
  rotate_left
  ·
   simp only [Act.put,la_,l0_,l1_,i64_w,i32_w]
   rfl
  refine pure_ (i:=18) (N:=some 43) (v:=undef) (a':=?_) #[true,true,true,true,true,true,true,true,true,true,true,true,true,true,true,true,true,true,true,false,false,false,false,false,false,false,false,false] rfl rfl (any_of HT_.out (by kernel_rfl)) (fun _ _ _ h=>h) (Or.inr ⟨by rfl,rfl⟩) ?_ ?_
  rotate_left
  ·
   simp only [Act.put,la_,l0_,l1_,i64_w,i32_w]
   rfl
  refine pure_ (i:=19) (N:=some 44) (v:=undef) (a':=?_) #[true,true,true,true,true,true,true,true,true,true,true,true,true,true,true,true,true,true,true,true,false,false,false,false,false,false,false,false] rfl rfl (any_of HT_.out (by kernel_rfl)) (fun _ _ _ h=>h) (Or.inr ⟨by rfl,rfl⟩) ?_ ?_
  rotate_left
  ·
   simp only [Act.put,la_,l0_,l1_,i64_w,i32_w]
   rfl
  refine pure_ (i:=20) (N:=some 45) (v:=undef) (a':=?_) #[true,true,true,true,true,true,true,true,true,true,true,true,true,true,true,true,true,true,true,true,true,false,false,false,false,false,false,false] rfl rfl (any_of HT_.out (by kernel_rfl)) (fun _ _ _ h=>h) (Or.inr ⟨by rfl,rfl⟩) ?_ ?_
  rotate_left
  ·
   simp only [Act.put,la_,l0_,l1_,i64_w,i32_w]
   rfl
  refine pure_ (i:=21) (N:=some 46) (v:=undef) (a':=?_) #[true,true,true,true,true,true,true,true,true,true,true,true,true,true,true,true,true,true,true,true,true,true,false,false,false,false,false,false] rfl rfl (any_of HT_.out (by kernel_rfl)) (fun _ _ _ h=>h) (Or.inr ⟨by rfl,rfl⟩) ?_ ?_
  rotate_left
  ·
   simp only [Act.put,la_,l0_,l1_,i64_w,i32_w]
   rfl
  refine pure_ (i:=22) (N:=some 47) (v:=undef) (a':=?_) #[true,true,true,true,true,true,true,true,true,true,true,true,true,true,true,true,true,true,true,true,true,true,true,false,false,false,false,false] rfl rfl (any_of HT_.out (by kernel_rfl)) (fun _ _ _ h=>h) (Or.inr ⟨by rfl,rfl⟩) ?_ ?_
  rotate_left
  ·
   simp only [Act.put,la_,l0_,l1_,i64_w,i32_w]
   rfl
  refine pure_ (i:=23) (N:=some 48) (v:=?_) (a':=?_) #[true,true,true,true,true,true,true,true,true,true,true,true,true,true,true,true,true,true,true,true,true,true,true,true,false,false,false,false] rfl rfl (any_of HT_.out (by kernel_rfl)) (fun _ _ _ h=>h) (Or.inl ⟨by rfl,?_⟩) ?_ ?_
  rotate_left
  ·
   intro w'
   go_simp
   with_reducible rfl
  rotate_left
  ·
   simp only [Act.put,la_,l0_,l1_,i64_w,i32_w]
   rfl
  refine pure_ (i:=24) (N:=some 49) (v:=?_) (a':=?_) #[true,true,true,true,true,true,true,true,true,true,true,true,true,true,true,true,true,true,true,true,true,true,true,true,true,false,false,false] rfl rfl (any_of HT_.out (by kernel_rfl)) (fun _ _ _ h=>h) (Or.inl ⟨by rfl,?_⟩) ?_ ?_
  rotate_left
  ·
   intro w'
   go_simp
   with_reducible rfl
  rotate_left
  ·
   simp only [Act.put,la_,l0_,l1_,i64_w,i32_w]
   rfl
  refine pure_ (i:=25) (N:=some 50) (v:=undef) (a':=?_) #[true,true,true,true,true,true,true,true,true,true,true,true,true,true,true,true,true,true,true,true,true,true,true,true,true,true,false,false] rfl rfl (any_of HT_.out (by kernel_rfl)) (fun _ _ _ h=>h) (Or.inr ⟨by rfl,rfl⟩) ?_ ?_
  rotate_left
  ·
   simp only [Act.put,la_,l0_,l1_,i64_w,i32_w]
   rfl
  refine pure_ (i:=26) (N:=some 51) (v:=?_) (a':=?_) #[true,true,true,true,true,true,true,true,true,true,true,true,true,true,true,true,true,true,true,true,true,true,true,true,true,true,true,false] rfl rfl (any_of HT_.out (by kernel_rfl)) (fun _ _ _ h=>h) (Or.inl ⟨by rfl,?_⟩) ?_ ?_
  rotate_left
  ·
   intro w'
   go_simp
   with_reducible rfl
  rotate_left
  ·
   simp only [Act.put,la_,l0_,l1_,i64_w,i32_w]
   rfl
  refine pure_ (i:=27) (N:=some 4) (v:=?_) (a':=?_) #[true,true,true,true,true,true,true,true,true,true,true,true,true,true,true,true,true,true,true,true,true,true,true,true,true,true,true,true] rfl rfl (any_of HT_.out (by kernel_rfl)) (fun _ _ _ h=>h) (Or.inl ⟨by rfl,?_⟩) ?_ ?_
  rotate_left
  ·
   intro w'
   go_simp
   with_reducible rfl
  rotate_left
  ·
   simp only [Act.put,la_,l0_,l1_,i64_w,i32_w]
   rfl
  refine done_ (done_of HT_.out (by kernel_rfl)) ?_
  try go_wp2
  go_ret
  exact ⟨by first|rfl|(simp [errW_none,errW_some] <;> rfl)|(simp [*,errW_none,errW_some] <;> rfl),by repeat (first|(with_reducible first|exact HB.out|apply ba_|apply bn_|apply bd_|refine below_set ?_ GE339.out)|exact HB.out)⟩
 rw [if_neg c9] at H
 have c9b0 : (t341 == t343) = false:=by simpa using c9
 (try (have c9b1 : decide (t341 = t343) = false:=by simpa using c9))
 (try (have c9b2 : (t341 == t343) = false:=by simpa using c9))
 (try (have c9b3 : ¬ (t341 = t343):=by simpa using c9))
 clear c9
 obtain rfl:=Option.some.inj H
 go_enter Try.func4,Try.ntmps4
 try go_wp2_with (first|((with_reducible refine gate_dst (N:=3) rfl ?_);refine box_event ?hg (N:=3) ?hd (cs:=#[.int .i64 a1_0,.int .i64 a1_1]) (t:=30) ?hr ?_;(case hd=>rfl);(case hg=>rfl);(case hr=>first|(go_simp;done)|(go_simp;rfl));intro gb339 hg w60 hbox hb;have n0_:=Aside0.mk (below_step (by repeat (first|(with_reducible first|exact HB.out|apply ba_|apply bn_|apply bd_)|exact HB.out)) hb);have n1_:=Aside0.mk (hbox);have n2_:=Aside0.mk ((by rw [hg];exact (below_size (by repeat (first|(with_reducible first|exact HB.out|apply ba_|apply bn_|apply bd_)|exact HB.out))) : w.heap.size ≤ gb339));have n3_:=Aside0.mk ((by rw [hg];exact (below_size (by repeat (first|(with_reducible first|exact HB.out|apply ba_|apply bn_|apply bd_)|exact HB.out))) : w.heap.size ≤ gb339));clear HB;have HB:=n0_;have BK339:=n1_;have GW339:=n2_;have GE339:=n3_;clear n0_ n1_ n2_ n3_;clear hb hbox hg;have hcz61_0 : w60.cell? ⟨gb339,0,none⟩ = some (.int .i64 a1_0):=(blk_cell BK339.out 0).trans rfl;have hcz61_1 : w60.cell? ⟨gb339,1,none⟩ = some (.int .i64 a1_1):=(blk_cell BK339.out 1).trans rfl;have hfz61_0:=blk_frozen BK339.out 0;have hfz61_1:=blk_frozen BK339.out 1)|((with_reducible refine gate_callee (f:=14) rfl ?_);refine goesL_ (some 16) rfl rfl Try.func14 (by kernel_rfl) rfl #[.slice A0 l0.length c0,.agg #[.int .i64 a1_0,.int .i64 a1_1]] rfl (by (try simp only [List.map_toArray,List.map_cons,List.map_nil]);first|done|rfl|(simp only [List.length_drop,List.length_take];rfl)) ?_;(with_reducible refine (convex_Inside.calls k _ _ l0 a1_0 a1_1 t341 t342 _ ?side1 ?side2 A7.out).mono ?_);(case side1=>repeat (first|exact (Kd.C_below HR0.out HB.out)|(with_reducible refine Kd.C_alloc ?_ _)|(with_reducible refine Kd.C_drewN ?_ _)|(with_reducible refine Kd.C_drew ?_)));(case side2=>exact HC0.out);rintro e w62 ⟨rfl,hb⟩;refine ⟨_,rfl,?_⟩;have n0_:=Aside0.mk (blk_below (g:=gb339) (o:=.cells #[.int .i64 a1_0,.int .i64 a1_1] 30 (0,0)) (by (with_reducible repeat (first|refine kn_ ?_ _|refine kd_ ?_|refine ka_ ?_ _));exact BK339.out) hb);have n1_:=Aside0.mk (below_step (by repeat (first|(with_reducible first|exact HB.out|apply ba_|apply bn_|apply bd_|refine below_set ?_ GE339.out)|exact HB.out)) hb);clear BK339;clear HB;have BK339:=n0_;have HB:=n1_;clear n0_ n1_;(try clear hb);(try clear hb2);(try clear hk);(try clear hi);have hcz63_0 : w62.cell? ⟨gb339,0,none⟩ = some (.int .i64 a1_0):=(blk_cell BK339.out 0).trans rfl;have hcz63_1 : w62.cell? ⟨gb339,1,none⟩ = some (.int .i64 a1_1):=(blk_cell BK339.out 1).trans rfl;have hfz63_0:=blk_frozen BK339.out 0;have hfz63_1:=blk_frozen BK339.out 1)|((with_reducible refine gate_callee (f:=15) rfl ?_);refine goesL_ (some 22) rfl rfl Try.func15 (by kernel_rfl) rfl #[.slice A0 l0.length c0,.agg #[.int .i64 a1_0,.int .i64 a1_1]] rfl (by (try simp only [List.map_toArray,List.map_cons,List.map_nil]);first|done|rfl|(simp only [List.length_drop,List.length_take];rfl)) ?_;(with_reducible refine (garmentref14_Inside.calls k _ _ l0 a1_0 a1_1 t343 t344 _ ?side1 ?side2 A8.out).mono ?_);(case side1=>repeat (first|exact (Kd.C_below HR0.out HB.out)|(with_reducible refine Kd.C_alloc ?_ _)|(with_reducible refine Kd.C_drewN ?_ _)|(with_reducible refine Kd.C_drew ?_)));(case side2=>exact HC0.out);rintro e w64 ⟨rfl,hb⟩;refine ⟨_,rfl,?_⟩;have n0_:=Aside0.mk (blk_below (g:=gb339) (o:=.cells #[.int .i64 a1_0,.int .i64 a1_1] 30 (0,0)) (by (with_reducible repeat (first|refine kn_ ?_ _|refine kd_ ?_|refine ka_ ?_ _));exact BK339.out) hb);have n1_:=Aside0.mk (below_step (by repeat (first|(with_reducible first|exact HB.out|apply ba_|apply bn_|apply bd_|refine below_set ?_ GE339.out)|exact HB.out)) hb);clear BK339;clear HB;have BK339:=n0_;have HB:=n1_;clear n0_ n1_;(try clear hb);(try clear hb2);(try clear hk);(try clear hi)))
 have n0_:=Aside0.mk (kd_ BK339.out)
 have n1_:=Aside0.mk (bd_ HB.out)
 clear BK339
 clear HB
 have BK339:=n0_
 have HB:=n1_
 clear n0_ n1_
 refine start_ (n:=28) (S:=fun w'=>True) (ds:=[]) #[false,false,false,false,false,false,false,false,false,false,false,false,false,false,false,false,false,false,false,false,false,false,false,false,false,false,false,false] (by kernel_rfl) rfl rfl trivial (fun hHeld=>?_);refine with_tabW garmentlaw14_ConvexInsides.tab5 garmentlaw14_ConvexInsides.bits5 (fun HT_ HW_=>?_)
 generalize w64.drew = w65 at BK339 HB hHeld ⊢
 refine pure_ (i:=0) (N:=some 25) (v:=?_) (a':=?_) #[true,false,false,false,false,false,false,false,false,false,false,false,false,false,false,false,false,false,false,false,false,false,false,false,false,false,false,false] rfl rfl (any_of HT_.out (by kernel_rfl)) (fun _ _ _ h=>h) (Or.inl ⟨by rfl,?_⟩) ?_ ?_
 rotate_left
 ·
  intro w'
  go_simp
  with_reducible rfl
 rotate_left
 ·
  simp only [Act.put,la_,l0_,l1_,i64_w,i32_w]
  rfl
 refine pure_ (i:=1) (N:=some 26) (v:=?_) (a':=?_) #[true,true,false,false,false,false,false,false,false,false,false,false,false,false,false,false,false,false,false,false,false,false,false,false,false,false,false,false] rfl rfl (any_of HT_.out (by kernel_rfl)) (fun _ _ _ h=>h) (Or.inl ⟨by rfl,?_⟩) ?_ ?_
 rotate_left
 ·
  intro w'
  go_simp
  with_reducible rfl
 rotate_left
 ·
  simp only [Act.put,la_,l0_,l1_,i64_w,i32_w]
  rfl
 refine pure_ (i:=2) (N:=some 27) (v:=?_) (a':=?_) #[true,true,true,false,false,false,false,false,false,false,false,false,false,false,false,false,false,false,false,false,false,false,false,false,false,false,false,false] rfl rfl (any_of HT_.out (by kernel_rfl)) (fun _ _ _ h=>h) (Or.inl ⟨by rfl,?_⟩) ?_ ?_
 rotate_left
 ·
  intro w'
  go_simp
  with_reducible rfl
 rotate_left
 ·
  simp only [Act.put,la_,l0_,l1_,i64_w,i32_w]
  rfl
 refine pure_ (i:=3) (N:=some 28) (v:=?_) (a':=?_) #[true,true,true,true,false,false,false,false,false,false,false,false,false,false,false,false,false,false,false,false,false,false,false,false,false,false,false,false] rfl rfl (any_of HT_.out (by kernel_rfl)) (fun _ _ _ h=>h) (Or.inl ⟨by rfl,?_⟩) ?_ ?_
 rotate_left
 ·
  intro w'
  go_simp
  with_reducible rfl
 rotate_left
 ·
  simp only [Act.put,la_,l0_,l1_,i64_w,i32_w]
  rfl
 refine pure_ (i:=4) (N:=some 29) (v:=undef) (a':=?_) #[true,true,true,true,true,false,false,false,false,false,false,false,false,false,false,false,false,false,false,false,false,false,false,false,false,false,false,false] rfl rfl (any_of HT_.out (by kernel_rfl)) (fun _ _ _ h=>h) (Or.inr ⟨by rfl,rfl⟩) ?_ ?_
 rotate_left
 ·
  simp only [Act.put,la_,l0_,l1_,i64_w,i32_w]
  rfl
 refine pure_ (i:=5) (N:=some 30) (v:=undef) (a':=?_) #[true,true,true,true,true,true,false,false,false,false,false,false,false,false,false,false,false,false,false,false,false,false,false,false,false,false,false,false] rfl rfl (any_of HT_.out (by kernel_rfl)) (fun _ _ _ h=>h) (Or.inr ⟨by rfl,rfl⟩) ?_ ?_
 rotate_left
 ·
  simp only [Act.put,la_,l0_,l1_,i64_w,i32_w]
  rfl
 refine pure_ (i:=6) (N:=some 31) (v:=undef) (a':=?_) #[true,true,true,true,true,true,true,false,false,false,false,false,false,false,false,false,false,false,false,false,false,false,false,false,false,false,false,false] rfl rfl (any_of HT_.out (by kernel_rfl)) (fun _ _ _ h=>h) (Or.inr ⟨by rfl,rfl⟩) ?_ ?_
 rotate_left
 ·
  simp only [Act.put,la_,l0_,l1_,i64_w,i32_w]
  rfl
 refine pure_ (i:=7) (N:=some 32) (v:=?_) (a':=?_) #[true,true,true,true,true,true,true,true,false,false,false,false,false,false,false,false,false,false,false,false,false,false,false,false,false,false,false,false] rfl rfl (any_of HT_.out (by kernel_rfl)) (fun _ _ _ h=>h) (Or.inl ⟨by rfl,?_⟩) ?_ ?_
 rotate_left
 ·
  intro w'
  go_simp
  with_reducible rfl
 rotate_left
 ·
  simp only [Act.put,la_,l0_,l1_,i64_w,i32_w]
  rfl
 refine pure_ (i:=8) (N:=some 33) (v:=?_) (a':=?_) #[true,true,true,true,true,true,true,true,true,false,false,false,false,false,false,false,false,false,false,false,false,false,false,false,false,false,false,false] rfl rfl (any_of HT_.out (by kernel_rfl)) (fun _ _ _ h=>h) (Or.inl ⟨by rfl,?_⟩) ?_ ?_
 rotate_left
 ·
  intro w'
  go_simp
  with_reducible rfl
 rotate_left
 ·
  simp only [Act.put,la_,l0_,l1_,i64_w,i32_w]
  rfl
 refine pure_ (i:=9) (N:=some 34) (v:=undef) (a':=?_) #[true,true,true,true,true,true,true,true,true,true,false,false,false,false,false,false,false,false,false,false,false,false,false,false,false,false,false,false] rfl rfl (any_of HT_.out (by kernel_rfl)) (fun _ _ _ h=>h) (Or.inr ⟨by rfl,rfl⟩) ?_ ?_
 rotate_left
 ·
  simp only [Act.put,la_,l0_,l1_,i64_w,i32_w]
  rfl
 refine pure_ (i:=10) (N:=some 35) (v:=undef) (a':=?_) #[true,true,true,true,true,true,true,true,true,true,true,false,false,false,false,false,false,false,false,false,false,false,false,false,false,false,false,false] rfl rfl (any_of HT_.out (by kernel_rfl)) (fun _ _ _ h=>h) (Or.inr ⟨by rfl,rfl⟩) ?_ ?_
 rotate_left
 ·
  simp only [Act.put,la_,l0_,l1_,i64_w,i32_w]
  rfl
 refine pure_ (i:=11) (N:=some 36) (v:=undef) (a':=?_) #[true,true,true,true,true,true,true,true,true,true,true,true,false,false,false,false,false,false,false,false,false,false,false,false,false,false,false,false] rfl rfl (any_of HT_.out (by kernel_rfl)) (fun _ _ _ h=>h) (Or.inr ⟨by rfl,rfl⟩) ?_ ?_
 rotate_left
 ·
  simp only [Act.put,la_,l0_,l1_,i64_w,i32_w]
  rfl
 refine pure_ (i:=12) (N:=some 37) (v:=undef) (a':=?_) #[true,true,true,true,true,true,true,true,true,true,true,true,true,false,false,false,false,false,false,false,false,false,false,false,false,false,false,false] rfl rfl (any_of HT_.out (by kernel_rfl)) (fun _ _ _ h=>h) (Or.inr ⟨by rfl,rfl⟩) ?_ ?_
 rotate_left
 ·
  simp only [Act.put,la_,l0_,l1_,i64_w,i32_w]
  rfl
 refine pure_ (i:=13) (N:=some 38) (v:=undef) (a':=?_) #[true,true,true,true,true,true,true,true,true,true,true,true,true,true,false,false,false,false,false,false,false,false,false,false,false,false,false,false] rfl rfl (any_of HT_.out (by kernel_rfl)) (fun _ _ _ h=>h) (Or.inr ⟨by rfl,rfl⟩) ?_ ?_
 rotate_left
 ·
  simp only [Act.put,la_,l0_,l1_,i64_w,i32_w]
  rfl
 refine pure_ (i:=14) (N:=some 39) (v:=?_) (a':=?_) #[true,true,true,true,true,true,true,true,true,true,true,true,true,true,true,false,false,false,false,false,false,false,false,false,false,false,false,false] rfl rfl (any_of HT_.out (by kernel_rfl)) (fun _ _ _ h=>h) (Or.inl ⟨by rfl,?_⟩) ?_ ?_
 rotate_left
 ·
  intro w'
  go_simp
  with_reducible rfl
 rotate_left
 ·
  simp only [Act.put,la_,l0_,l1_,i64_w,i32_w]
  rfl
 refine pure_ (i:=15) (N:=some 40) (v:=?_) (a':=?_) #[true,true,true,true,true,true,true,true,true,true,true,true,true,true,true,true,false,false,false,false,false,false,false,false,false,false,false,false] rfl rfl (any_of HT_.out (by kernel_rfl)) (fun _ _ _ h=>h) (Or.inl ⟨by rfl,?_⟩) ?_ ?_
 rotate_left
 ·
  intro w'
  go_simp
  with_reducible rfl
 rotate_left
 ·
  simp only [Act.put,la_,l0_,l1_,i64_w,i32_w]
  rfl
 refine pure_ (i:=16) (N:=some 41) (v:=undef) (a':=?_) #[true,true,true,true,true,true,true,true,true,true,true,true,true,true,true,true,true,false,false,false,false,false,false,false,false,false,false,false] rfl rfl (any_of HT_.out (by kernel_rfl)) (fun _ _ _ h=>h) (Or.inr ⟨by rfl,rfl⟩) ?_ ?_
 rotate_left
 ·
  simp only [Act.put,la_,l0_,l1_,i64_w,i32_w]
  rfl
 refine pure_ (i:=17) (N:=some 42) (v:=undef) (a':=?_) #[true,true,true,true,true,true,true,true,true,true,true,true,true,true,true,true,true,true,false,false,false,false,false,false,false,false,false,false] rfl rfl (any_of HT_.out (by kernel_rfl)) (fun _ _ _ h=>h) (Or.inr ⟨by rfl,rfl⟩) ?_ ?_
 rotate_left
 ·
  simp only [Act.put,la_,l0_,l1_,i64_w,i32_w]
  rfl
 refine pure_ (i:=18) (N:=some 43) (v:=undef) (a':=?_) #[true,true,true,true,true,true,true,true,true,true,true,true,true,true,true,true,true,true,true,false,false,false,false,false,false,false,false,false] rfl rfl (any_of HT_.out (by kernel_rfl)) (fun _ _ _ h=>h) (Or.inr ⟨by rfl,rfl⟩) ?_ ?_
 rotate_left
 ·
  simp only [Act.put,la_,l0_,l1_,i64_w,i32_w]
  rfl
 refine pure_ (i:=19) (N:=some 44) (v:=undef) (a':=?_) #[true,true,true,true,true,true,true,true,true,true,true,true,true,true,true,true,true,true,true,true,false,false,false,false,false,false,false,false] rfl rfl (any_of HT_.out (by kernel_rfl)) (fun _ _ _ h=>h) (Or.inr ⟨by rfl,rfl⟩) ?_ ?_
 rotate_left
 ·
  simp only [Act.put,la_,l0_,l1_,i64_w,i32_w]
  rfl
 refine pure_ (i:=20) (N:=some 45) (v:=undef) (a':=?_) #[true,true,true,true,true,true,true,true,true,true,true,true,true,true,true,true,true,true,true,true,true,false,false,false,false,false,false,false] rfl rfl (any_of HT_.out (by kernel_rfl)) (fun _ _ _ h=>h) (Or.inr ⟨by rfl,rfl⟩) ?_ ?_
 rotate_left
 ·
  simp only [Act.put,la_,l0_,l1_,i64_w,i32_w]
  rfl
 refine pure_ (i:=21) (N:=some 46) (v:=undef) (a':=?_) #[true,true,true,true,true,true,true,true,true,true,true,true,true,true,true,true,true,true,true,true,true,true,false,false,false,false,false,false] rfl rfl (any_of HT_.out (by kernel_rfl)) (fun _ _ _ h=>h) (Or.inr ⟨by rfl,rfl⟩) ?_ ?_
 rotate_left
 ·
  simp only [Act.put,la_,l0_,l1_,i64_w,i32_w]
  rfl
 refine pure_ (i:=22) (N:=some 47) (v:=undef) (a':=?_) #[true,true,true,true,true,true,true,true,true,true,true,true,true,true,true,true,true,true,true,true,true,true,true,false,false,false,false,false] rfl rfl (any_of HT_.out (by kernel_rfl)) (fun _ _ _ h=>h) (Or.inr ⟨by rfl,rfl⟩) ?_ ?_
 rotate_left
 ·
  simp only [Act.put,la_,l0_,l1_,i64_w,i32_w]
  rfl
 refine pure_ (i:=23) (N:=some 48) (v:=?_) (a':=?_) #[true,true,true,true,true,true,true,true,true,true,true,true,true,true,true,true,true,true,true,true,true,true,true,true,false,false,false,false] rfl rfl (any_of HT_.out (by kernel_rfl)) (fun _ _ _ h=>h) (Or.inl ⟨by rfl,?_⟩) ?_ ?_
 rotate_left
 ·
  intro w'
  go_simp
  with_reducible rfl
 rotate_left
 ·
  simp only [Act.put,la_,l0_,l1_,i64_w,i32_w]
  rfl
 refine pure_ (i:=24) (N:=some 49) (v:=?_) (a':=?_) #[true,true,true,true,true,true,true,true,true,true,true,true,true,true,true,true,true,true,true,true,true,true,true,true,true,false,false,false] rfl rfl (any_of HT_.out (by kernel_rfl)) (fun _ _ _ h=>h) (Or.inl ⟨by rfl,?_⟩) ?_ ?_
 rotate_left
 ·
  intro w'
  go_simp
  with_reducible rfl
 rotate_left
 ·
  simp only [Act.put,la_,l0_,l1_,i64_w,i32_w]
  rfl
 refine pure_ (i:=25) (N:=some 50) (v:=undef) (a':=?_) #[true,true,true,true,true,true,true,true,true,true,true,true,true,true,true,true,true,true,true,true,true,true,true,true,true,true,false,false] rfl rfl (any_of HT_.out (by kernel_rfl)) (fun _ _ _ h=>h) (Or.inr ⟨by rfl,rfl⟩) ?_ ?_
 rotate_left
 ·
  simp only [Act.put,la_,l0_,l1_,i64_w,i32_w]
  rfl
 refine pure_ (i:=26) (N:=some 51) (v:=?_) (a':=?_) #[true,true,true,true,true,true,true,true,true,true,true,true,true,true,true,true,true,true,true,true,true,true,true,true,true,true,true,false] rfl rfl (any_of HT_.out (by kernel_rfl)) (fun _ _ _ h=>h) (Or.inl ⟨by rfl,?_⟩) ?_ ?_
 rotate_left
 ·
  intro w'
  go_simp
  with_reducible rfl
 rotate_left
 ·
  simp only [Act.put,la_,l0_,l1_,i64_w,i32_w]
  rfl
 refine pure_ (i:=27) (N:=some 4) (v:=?_) (a':=?_) #[true,true,true,true,true,true,true,true,true,true,true,true,true,true,true,true,true,true,true,true,true,true,true,true,true,true,true,true] rfl rfl (any_of HT_.out (by kernel_rfl)) (fun _ _ _ h=>h) (Or.inl ⟨by rfl,?_⟩) ?_ ?_
 rotate_left
 ·
  intro w'
  go_simp
  with_reducible rfl
 rotate_left
 ·
  simp only [Act.put,la_,l0_,l1_,i64_w,i32_w]
  rfl
 refine done_ (done_of HT_.out (by kernel_rfl)) ?_
 try go_wp2
 go_ret
 exact ⟨by first|rfl|(simp [errW_none,errW_some] <;> rfl)|(simp [*,errW_none,errW_some] <;> rfl),by repeat (first|(with_reducible first|exact HB.out|apply ba_|apply bn_|apply bd_|refine below_set ?_ GE339.out)|exact HB.out)⟩

end Go.Proofs.Ytlnigbhimdphoaa.C
