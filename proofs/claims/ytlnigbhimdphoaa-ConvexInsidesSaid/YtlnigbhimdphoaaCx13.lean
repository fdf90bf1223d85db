-- PRINTED by print.py (a twelfth state) out of the translation. Not trusted: Lean checks it.
import Derived.Test.YtlnigbhimdphoaaCx0
import Derived.Test.YtlnigbhimdphoaaCx1
import Derived.Test.YtlnigbhimdphoaaCx11
import Derived.Test.YtlnigbhimdphoaaCx12
namespace Go.Proofs.Ytlnigbhimdphoaa.C
open Go.RowKit Go.Proofs.YtlnigbhimdphoaaW.PrintWords Go.Proofs.YtlnigbhimdphoaaW.PrintLast Go.Proofs.YtlnigbhimdphoaaW.PrintMore
attribute [local go_sem] max2_int min2_int max_two min_two max_three min_three max_four min_four Go.Proofs.Ytlnigbhimdphoaa.Aid.isSome_setCell   -- for this text's walks alone
set_option linter.unusedVariables false
set_option linter.unusedSimpArgs false

attribute [local go_sem high] eqA30
/-! ### garmentref14_wrap: function 31 -/
mutual
def garmentref14_wrap.l0 : Nat → List (S30) → List (S30) → Int → Int → Int → Option ((List (S30)))
 | 0,_,_,_,_,_=>none
 | k + 1,x0,x4,x5,x285000,x285001=>if x5 < (x0.length : Int) then (garmentref14_wrap.l1 k x0 x4 x5 0 x285000 x285001 x285000 x285001) else (some x4)
def garmentref14_wrap.l1 : Nat → List (S30) → List (S30) → Int → Int → Int → Int → Int → Int → Option ((List (S30)))
 | 0,_,_,_,_,_,_,_,_=>none
 | k + 1,x0,x4,x5,x7,x285000,x285001,x289000,x289001=>if x7 < (x0.length : Int) then (if 0 ≤ x7 then ((garmentref11_Cross.f x285000 x285001 x289000 x289001 ((rd_T30 x0 x7).f0) ((rd_T30 x0 x7).f1)).bind fun t290=>(if (!(((rd_T30 x0 x7).f0) == x285000) || (!(((rd_T30 x0 x7).f1) == x285001))) = true then (if (x289000 == x285000 && (x289001 == x285001)) = true then (garmentref14_wrap.j2 k x0 x4 x5 x7 true x285000 x285001 x289000 x289001) else (if t290 < 0 then (garmentref14_wrap.j2 k x0 x4 x5 x7 true x285000 x285001 x289000 x289001) else (if t290 = 0 then ((garmentref14_distance.f x285000 x285001 ((rd_T30 x0 x7).f0) ((rd_T30 x0 x7).f1)).bind fun t293=>((garmentref14_distance.f x285000 x285001 x289000 x289001).bind fun t294=>(garmentref14_wrap.j2 k x0 x4 x5 x7 (decide (t293 > t294)) x285000 x285001 x289000 x289001))) else (garmentref14_wrap.j2 k x0 x4 x5 x7 false x285000 x285001 x289000 x289001)))) else (garmentref14_wrap.j2 k x0 x4 x5 x7 false x285000 x285001 x289000 x289001))) else (none)) else (if 0 < (x4.length : Int) then (if (x289000 == ((rd_T30 x4 0).f0) && (x289001 == ((rd_T30 x4 0).f1))) = true then (some x4) else (if (x289000 == x285000 && (x289001 == x285001)) = true then (some x4) else (if x4.length < 8796093022208 then (garmentref14_wrap.l0 k x0 (x4 ++ [(⟨x289000,x289001⟩ : S30)]) (wrap64 (x5 + 1)) x289000 x289001) else (none)))) else (none))
def garmentref14_wrap.j2 : Nat → List (S30) → List (S30) → Int → Int → Bool → Int → Int → Int → Int → Option ((List (S30)))
 | 0,_,_,_,_,_,_,_,_,_=>none
 | k + 1,x0,x4,x5,x7,x68,x285000,x285001,x289000,x289001=>if x68 = true then (if 0 ≤ x7 then (if x7 < (x0.length : Int) then (garmentref14_wrap.l1 k x0 x4 x5 (wrap64 (x7 + 1)) x285000 x285001 ((rd_T30 x0 x7).f0) ((rd_T30 x0 x7).f1)) else (none)) else (none)) else (garmentref14_wrap.l1 k x0 x4 x5 (wrap64 (x7 + 1)) x285000 x285001 x289000 x289001)
end
def garmentref14_wrap.f (k : Nat) (l0 : List (S30)) : Option ((List (S30))):=if (l0.length : Int) = 0 then (some ([] : List (S30))) else ((garmentref11_Least.f k l0).bind fun t280=>(if 0 < (t280.length : Int) then (garmentref14_wrap.l0 k l0 (([(⟨(rd_T30 t280 0).f0,(rd_T30 t280 0).f1⟩ : S30)] : List (S30))) 0 ((rd_T30 t280 0).f0) ((rd_T30 t280 0).f1)) else (none)))
theorem garmentref14_wrap.mono_l : ∀ k,(∀ y0 y1 y2 y3 y4,LeO (garmentref14_wrap.l0 k y0 y1 y2 y3 y4) (garmentref14_wrap.l0 (k + 1) y0 y1 y2 y3 y4))∧(∀ y0 y1 y2 y3 y4 y5 y6 y7,LeO (garmentref14_wrap.l1 k y0 y1 y2 y3 y4 y5 y6 y7) (garmentref14_wrap.l1 (k + 1) y0 y1 y2 y3 y4 y5 y6 y7))∧(∀ y0 y1 y2 y3 y4 y5 y6 y7 y8,LeO (garmentref14_wrap.j2 k y0 y1 y2 y3 y4 y5 y6 y7 y8) (garmentref14_wrap.j2 (k + 1) y0 y1 y2 y3 y4 y5 y6 y7 y8))
 | 0=>⟨fun _ _ _ _ _ r h=>by simp [garmentref14_wrap.l0] at h,fun _ _ _ _ _ _ _ _ r h=>by simp [garmentref14_wrap.l1] at h,fun _ _ _ _ _ _ _ _ _ r h=>by simp [garmentref14_wrap.j2] at h⟩
 | k + 1=>by
  obtain ⟨ih0,ih1,ih2⟩:=garmentref14_wrap.mono_l k
  refine ⟨?_,?_,?_⟩
  ·
   intro y0 y1 y2 y3 y4
   unfold garmentref14_wrap.l0
   repeat' first
   | (with_reducible exact ih0 _ _ _ _ _)
   | (with_reducible exact ih1 _ _ _ _ _ _ _ _)
   | (with_reducible exact ih2 _ _ _ _ _ _ _ _ _)
   | (with_reducible exact garmentref11_Least.mono _ _)
   | (with_reducible exact LeO.refl _)
   | (with_reducible exact LeO.none _)
   | (with_reducible refine LeO.ite ?_ ?_)
   | (with_reducible refine LeO.bind ?_ (fun _=>?_))
   | exact ih0 _ _ _ _ _
   | exact ih1 _ _ _ _ _ _ _ _
   | exact ih2 _ _ _ _ _ _ _ _ _
   | exact garmentref11_Least.mono _ _
   | exact LeO.none _
   | refine LeO.ite ?_ ?_
   | refine LeO.bind ?_ (fun _=>?_)
  ·
   intro y0 y1 y2 y3 y4 y5 y6 y7
   unfold garmentref14_wrap.l1
   repeat' first
   | (with_reducible exact ih0 _ _ _ _ _)
   | (with_reducible exact ih1 _ _ _ _ _ _ _ _)
   | (with_reducible exact ih2 _ _ _ _ _ _ _ _ _)
   | (with_reducible exact garmentref11_Least.mono _ _)
   | (with_reducible exact LeO.refl _)
   | (with_reducible exact LeO.none _)
   | (with_reducible refine LeO.ite ?_ ?_)
   | (with_reducible refine LeO.bind ?_ (fun _=>?_))
   | exact ih0 _ _ _ _ _
   | exact ih1 _ _ _ _ _ _ _ _
   | exact ih2 _ _ _ _ _ _ _ _ _
   | exact garmentref11_Least.mono _ _
   | exact LeO.none _
   | refine LeO.ite ?_ ?_
   | refine LeO.bind ?_ (fun _=>?_)
  intro y0 y1 y2 y3 y4 y5 y6 y7 y8
  unfold garmentref14_wrap.j2
  repeat' first
  | (with_reducible exact ih0 _ _ _ _ _)
  | (with_reducible exact ih1 _ _ _ _ _ _ _ _)
  | (with_reducible exact ih2 _ _ _ _ _ _ _ _ _)
  | (with_reducible exact garmentref11_Least.mono _ _)
  | (with_reducible exact LeO.refl _)
  | (with_reducible exact LeO.none _)
  | (with_reducible refine LeO.ite ?_ ?_)
  | (with_reducible refine LeO.bind ?_ (fun _=>?_))
  | exact ih0 _ _ _ _ _
  | exact ih1 _ _ _ _ _ _ _ _
  | exact ih2 _ _ _ _ _ _ _ _ _
  | exact garmentref11_Least.mono _ _
  | exact LeO.none _
  | refine LeO.ite ?_ ?_
  | refine LeO.bind ?_ (fun _=>?_)
theorem garmentref14_wrap.mono : ∀ a0 k,LeO (garmentref14_wrap.f k a0) (garmentref14_wrap.f (k + 1) a0):=by
 intro a0 k
 obtain ⟨ih0,ih1,ih2⟩:=garmentref14_wrap.mono_l k
 unfold garmentref14_wrap.f
 repeat' first
   | (with_reducible exact ih0 _ _ _ _ _)
   | (with_reducible exact ih1 _ _ _ _ _ _ _ _)
   | (with_reducible exact ih2 _ _ _ _ _ _ _ _ _)
   | (with_reducible exact garmentref11_Least.mono _ _)
   | (with_reducible exact LeO.refl _)
   | (with_reducible exact LeO.none _)
   | (with_reducible refine LeO.ite ?_ ?_)
   | (with_reducible refine LeO.bind ?_ (fun _=>?_))
   | exact ih0 _ _ _ _ _
   | exact ih1 _ _ _ _ _ _ _ _
   | exact ih2 _ _ _ _ _ _ _ _ _
   | exact garmentref11_Least.mono _ _
   | exact LeO.none _
   | refine LeO.ite ?_ ?_
   | refine LeO.bind ?_ (fun _=>?_)
def garmentref14_wrap.T12 : Bool × List (List Nat × List Nat):=(true,[([],[]),([],[]),([],[]),([],[]),([2,3],[2,3]),([4],[4]),([0,1,5],[0,1,5]),([6,6,0,1,2,3,4,5,6],[6])])
def garmentref14_wrap.B12 : List Nat:=[0,0,0,0,12,28,63,127]
theorem garmentref14_wrap.tab12 : rtab .any (opsOf Try.f31 12) = garmentref14_wrap.T12:=by kernel_rfl
theorem garmentref14_wrap.bits12 : waitsOk garmentref14_wrap.T12.2 garmentref14_wrap.B12 = true:=by kernel_rfl
def garmentref14_wrap.T13 : Bool × List (List Nat × List Nat):=(true,[([],[]),([],[]),([0,1],[0,1]),([2],[2]),([],[]),([3,4],[3,4]),([5],[5]),([6],[6]),([6],[6]),([7,8,6],[6,7,8]),([9,6,6],[6,9]),([10],[10]),([11,10],[10,11]),([10,12,6],[6,10,12]),([13,10,6],[6,13]),([14],[14]),([15,14],[14,15]),([16,14,14],[14,16]),([17],[17]),([17],[17]),([17],[17]),([19,20,17],[17,19,20]),([21,17],[17,21]),([18,22,17,17],[17,18,22]),([17],[17]),([17],[17]),([24,25,23,17],[17,24,25]),([23,26,17],[17,23,26]),([17,27,14],[14,17,27]),([14,28,6],[6,14,28]),([6,29],[6,29])])
def garmentref14_wrap.B13 : List Nat:=[0,0,3,7,0,31,63,127,127,511,1023,2047,4095,8191,16383,32767,65535,131071,262143,262143,262143,1835007,3932159,8388607,262143,262143,67108863,134217727,268435455,536870911,1073741823]
theorem garmentref14_wrap.tab13 : rtab .any (opsOf Try.f31 13) = garmentref14_wrap.T13:=by kernel_rfl
theorem garmentref14_wrap.bits13 : waitsOk garmentref14_wrap.T13.2 garmentref14_wrap.B13 = true:=by kernel_rfl
def garmentref14_wrap.T15 : Bool × List (List Nat × List Nat):=(true,[([],[]),([],[]),([1],[1]),([2],[2]),([0,3],[0,3]),([4],[4]),([5],[5]),([5],[5]),([6,7,5],[5,6,7]),([5,8],[5,8])])
def garmentref14_wrap.B15 : List Nat:=[0,0,2,6,15,31,63,63,255,511]
theorem garmentref14_wrap.tab15 : rtab .any (opsOf Try.f31 15) = garmentref14_wrap.T15:=by kernel_rfl
theorem garmentref14_wrap.bits15 : waitsOk garmentref14_wrap.T15.2 garmentref14_wrap.B15 = true:=by kernel_rfl
set_option maxHeartbeats 8000000 in
set_option maxRecDepth 100000 in
theorem garmentref14_wrap.calls (k : Nat) (A0 : Option Addr) (c0 : Nat) (l0 : List (S30)) (r : List (S30)) (w : World) (hr0 : Kd.C k30 w A0 l0.length l0) (hc0 : l0.length ≤ c0) (h : garmentref14_wrap.f k l0 = some r) :
  Calls Try.prog 31 #[.slice A0 l0.length c0] w fun e w'=>∃ v0_ : Value,e = .returned (v0_)∧Kd.R k30 30 w' w.heap.size (fun _=>True) v0_ r∧Below w.heap.size w w':=by
 have hu30:=Try.underlying30
 have HR0:=Aside0.mk hr0
 have HC0:=Aside0.mk hc0
 clear hr0 hc0
 have HB:=Aside0.mk (Below.refl w.heap.size w)
 have H : (if (l0.length : Int) = 0 then (some ([] : List (S30))) else ((garmentref11_Least.f k l0).bind fun t280=>(if 0 < (t280.length : Int) then (garmentref14_wrap.l0 k l0 (([(⟨(rd_T30 t280 0).f0,(rd_T30 t280 0).f1⟩ : S30)] : List (S30))) 0 ((rd_T30 t280 0).f0) ((rd_T30 t280 0).f1)) else (none)))) = some r:=h
 clear h
 by_cases c2 : (l0.length : Int) = 0
 ·
  rw [if_pos c2] at H
  have c2b0 : ((l0.length : Int) == 0) = true:=beq_iff_eq.mpr c2
  have c2b1 : ((l0.length : Int) != 0) = false:=bne_eq_false_iff_eq.mpr c2
  clear c2
  obtain rfl:=Option.some.inj H
  go_enter Try.func31,Try.ntmps31
  go_wp2
  go_ret
  exact ⟨_,by first|rfl|(simp [errW_none,errW_some] <;> rfl)|(simp [*,errW_none,errW_some] <;> rfl),by first|exact Kd.R_nil _ _ _ _ _|exact Kd.N_nil _ _ _ _ _|exact Kd.V_nil _ _ _ _ _|exact Kd.Q_nil _ _ _ _ _|exact Kd.S_nil _ _ _ _ _,by repeat (first|(with_reducible first|exact HB.out|apply ba_|apply bn_|apply bd_)|exact HB.out)⟩
 rw [if_neg c2] at H
 have c2b0 : ((l0.length : Int) == 0) = false:=beq_eq_false_iff_ne.mpr c2
 have c2b1 : ((l0.length : Int) != 0) = true:=bne_iff_ne.mpr c2
 have c2b2 : ¬ (l0 = []):=fun h_=>c2 (by rw [h_];rfl)
 replace H:=Option.bind_eq_some_iff.mp H
 obtain ⟨t280,A30,H⟩:=H
 replace H : (if 0 < (t280.length : Int) then (garmentref14_wrap.l0 k l0 (([(⟨(rd_T30 t280 0).f0,(rd_T30 t280 0).f1⟩ : S30)] : List (S30))) 0 ((rd_T30 t280 0).f0) ((rd_T30 t280 0).f1)) else (none)) = some r:=H
 have A3:=Aside0.mk A30
 clear A30
 by_cases c4 : 0 < (t280.length : Int)
 ·
  rw [if_pos c4] at H
  have c4b0 : decide (0 < (t280.length : Int)) = true:=decide_eq_true c4
  have c4b1 : decide (0 < t280.length) = true:=decide_eq_true (by omega)
  clear c4
  obtain ⟨y285,hy285⟩ : ∃ y_ : List (S30),y_ = (([(⟨(rd_T30 t280 0).f0,(rd_T30 t280 0).f1⟩ : S30)] : List (S30))):=⟨_,rfl⟩
  replace H : (garmentref14_wrap.l0 k l0 y285 0 ((rd_T30 t280 0).f0) ((rd_T30 t280 0).f1)) = some r:=by first|(rw [hy285];with_reducible exact H)|(have H2_:=(Option.bind_some _ _).symm.trans H;rw [hy285];with_reducible exact H2_)|(have H2_:=(Option.bind_some _ _).symm.trans H;with_reducible exact H2_)|with_reducible exact H|(rw [hy285];exact H)|exact H
  have Ny285:=Aside0.mk hy285
  clear hy285
  have H':=Aside0.mk H
  clear H
  go_enter Try.func31,Try.ntmps31
  go_wp2_with (first|((with_reducible refine gate_callee (f:=43) rfl ?_);refine goesL_ (some 13) rfl rfl Try.func43 (by kernel_rfl) rfl #[.slice A0 l0.length c0] rfl (by (try simp only [List.map_toArray,List.map_cons,List.map_nil]);first|done|rfl|(simp only [List.length_drop,List.length_take];rfl)) ?_;(with_reducible refine (garmentref11_Least.calls k _ _ l0 t280 _ ?side1 ?side2 A3.out).mono ?_);(case side1=>repeat (first|exact HR0.out|(with_reducible refine Kd.C_alloc ?_ _)|(with_reducible refine Kd.C_drewN ?_ _)|(with_reducible refine Kd.C_drew ?_)));(case side2=>exact HC0.out);rintro e w5 ⟨v281,rfl,ho0,hb⟩;refine ⟨_,rfl,?_⟩;have n0_:=Aside0.mk (Kd.R_lower ho0 (below_size (by repeat (first|(with_reducible first|exact HB.out|apply ba_|apply bn_|apply bd_)|exact HB.out))));have n1_:=Aside0.mk (below_step (by repeat (first|(with_reducible first|exact HB.out|apply ba_|apply bn_|apply bd_)|exact HB.out)) hb);clear HB;have HO282:=n0_;have HB:=n1_;clear n0_ n1_;(try clear hb);(try clear hb2);(try clear hk);(try clear hi);(try clear ho0);obtain ⟨Ao6,co6,eo6⟩:=Kd.R_slice HO282.out;subst eo6;have p283 : 0 ≤ (0 : Int):=(by omega);have q283 : 0 < (t280.length : Int):=of_decide_eq_true (by first|(with_reducible assumption)|assumption);obtain ⟨ad283,e283,hx283_0,hx283_1⟩:=at_T30 (Kd.R_reads' HO282.out).2.2 0 p283 q283;cases e283;have qi283 : (0 < t280.length) = True:=eq_true (by omega);(try rw [show ((0 : Int)).toNat = 0 from rfl] at hx283_0);(try rw [show 0 * 2 = 0 from rfl] at hx283_0);(try rw [Addr.add_zero'] at hx283_0);(try rw [show ((0 : Int)).toNat = 0 from rfl] at hx283_1);(try rw [show 0 * 2 = 0 from rfl] at hx283_1);(try rw [Addr.add_zero'] at hx283_1);replace p283:=eq_true p283;replace q283:=eq_true q283)|((with_reducible refine gate_dst (N:=3) rfl ?_);refine box_event ?hg (N:=3) ?hd (cs:=#[.int .i64 0,.int .i64 0]) (t:=30) ?hr ?_;(case hd=>rfl);(case hg=>rfl);(case hr=>first|(go_simp;done)|(go_simp;rfl));intro gb284 hg w7 hbox hb;have n0_:=Aside0.mk (Kd.R_below (Kd.R_elderB (by (with_reducible repeat (first|apply ra_|apply rn_|apply rd_));exact HO282.out) gb284 (Nat.le_of_eq hg.symm)) hb);have n1_:=Aside0.mk (below_step (by repeat (first|(with_reducible first|exact HB.out|apply ba_|apply bn_|apply bd_)|exact HB.out)) hb);have n2_:=Aside0.mk (hbox);have n3_:=Aside0.mk ((by rw [hg];exact (below_size (by repeat (first|(with_reducible first|exact HB.out|apply ba_|apply bn_|apply bd_)|exact HB.out))) : w.heap.size ≤ gb284));have n4_:=Aside0.mk ((by rw [hg];exact (below_size (by repeat (first|(with_reducible first|exact HB.out|apply ba_|apply bn_|apply bd_)|exact HB.out))) : w.heap.size ≤ gb284));clear HO282;clear HB;have HO282:=n0_;have HB:=n1_;have BK284:=n2_;have GW284:=n3_;have GE284:=n4_;clear n0_ n1_ n2_ n3_ n4_;clear hb hbox hg;have hcz8_0 : w7.cell? ⟨gb284,0,none⟩ = some (.int .i64 0):=(blk_cell BK284.out 0).trans rfl;have hcz8_1 : w7.cell? ⟨gb284,1,none⟩ = some (.int .i64 0):=(blk_cell BK284.out 1).trans rfl;have hfz8_0:=blk_frozen BK284.out 0;have hfz8_1:=blk_frozen BK284.out 1)|((with_reducible refine gate_dst (N:=17) rfl ?_);refine Kd.R_lit k30 _ 30 ?hg (N:=17) ?hd (xs:=([(⟨(rd_T30 t280 0).f0,(rd_T30 t280 0).f1⟩ : S30)] : List (S30))) (inner:=[.int .i64 ((rd_T30 t280 0).f0),.int .i64 ((rd_T30 t280 0).f1)]) (ok:=fun _=>True) (okp:=fun _=>True) ?hr ?hp (fun _ hk=>hk) trivial (Below.refl _ _) (Nat.le_refl _) (by simp) ?_;(case hd=>rfl);(case hg=>rfl);(case hr=>first|(go_simp;done)|(go_simp;rfl));(case hp=>exact (Reps.c2 (show Kd.M k30 _ _ _ (⟨(rd_T30 t280 0).f0,(rd_T30 t280 0).f1⟩ : S30) [.int .i64 ((rd_T30 t280 0).f0),.int .i64 ((rd_T30 t280 0).f1)] from (k30_mkM _ _ _ (⟨(rd_T30 t280 0).f0,(rd_T30 t280 0).f1⟩ : S30) )) (Reps.none _ _)));intro v286 w9 ho10 hb hg_ hnew_;clear hg_ hnew_;(first|rw [← Ny285.out] at ho10|(simp only [Int.reduceToNat] at ho10;rw [← Ny285.out] at ho10));have n0_:=Aside0.mk (Kd.R_elder' (by (with_reducible repeat (first|apply ra_|apply rn_|apply rd_));exact (Kd.R_mono (Kd.R_far (p:=⟨gb284,1,none⟩) (Kd.R_far (p:=⟨gb284,0,none⟩) (Kd.R_mono HO282.out (fun k_ hk=>(⟨hk,hk.2⟩ : _∧k_ ≠ gb284))) (fun _ hk=>hk.2) (.int .i64 ((rd_T30 t280 0).f0))) (fun _ hk=>hk.2) (.int .i64 ((rd_T30 t280 0).f1))) (fun _ h_=>h_.1))) (Kd.R_base ho10) hb);have n1_:=Aside0.mk (Kd.R_lower (Kd.R_newB (Kd.R_new' ho10 (Kd.R_lt (by (with_reducible repeat (first|apply ra_|apply rn_|apply rd_));exact (Kd.R_mono (Kd.R_far (p:=⟨gb284,1,none⟩) (Kd.R_far (p:=⟨gb284,0,none⟩) (Kd.R_mono HO282.out (fun k_ hk=>(⟨hk,hk.2⟩ : _∧k_ ≠ gb284))) (fun _ hk=>hk.2) (.int .i64 ((rd_T30 t280 0).f0))) (fun _ hk=>hk.2) (.int .i64 ((rd_T30 t280 0).f1))) (fun _ h_=>h_.1))))) (g:=gb284) (o:=.cells #[.int .i64 ((rd_T30 t280 0).f0),.int .i64 ((rd_T30 t280 0).f1)] 30 (0,0)) (by (with_reducible repeat (first|refine kn_ ?_ _|refine kd_ ?_|refine ka_ ?_ _));refine blk_put (cs:=#[.int .i64 ((rd_T30 t280 0).f0),.int .i64 0]) ?_ 1 _ rfl;(with_reducible repeat (first|refine kn_ ?_ _|refine kd_ ?_|refine ka_ ?_ _));refine blk_put (cs:=#[.int .i64 0,.int .i64 0]) ?_ 0 _ rfl;(with_reducible repeat (first|refine kn_ ?_ _|refine kd_ ?_|refine ka_ ?_ _));exact BK284.out)) (below_size (by repeat (first|(with_reducible first|exact HB.out|apply ba_|apply bn_|apply bd_|refine below_set ?_ GE284.out)|exact HB.out))));have n2_:=Aside0.mk (blk_below (g:=gb284) (o:=.cells #[.int .i64 ((rd_T30 t280 0).f0),.int .i64 ((rd_T30 t280 0).f1)] 30 (0,0)) (by (with_reducible repeat (first|refine kn_ ?_ _|refine kd_ ?_|refine ka_ ?_ _));refine blk_put (cs:=#[.int .i64 ((rd_T30 t280 0).f0),.int .i64 0]) ?_ 1 _ rfl;(with_reducible repeat (first|refine kn_ ?_ _|refine kd_ ?_|refine ka_ ?_ _));refine blk_put (cs:=#[.int .i64 0,.int .i64 0]) ?_ 0 _ rfl;(with_reducible repeat (first|refine kn_ ?_ _|refine kd_ ?_|refine ka_ ?_ _));exact BK284.out) hb);have n3_:=Aside0.mk (below_step (by repeat (first|(with_reducible first|exact HB.out|apply ba_|apply bn_|apply bd_|refine below_set ?_ GE284.out)|exact HB.out)) hb);clear HO282;clear BK284;clear HB;have HO282:=n0_;have HO287:=n1_;have BK284:=n2_;have HB:=n3_;clear n0_ n1_ n2_ n3_;clear hb ho10))
  go_loopg [4,5] k (fun kq v4 v5 w'=>∃ (x4_1 : List (S30)) (x5_1 : Int) (x285000_1 : Int) (x285001_1 : Int),v5 = .int .i64 x5_1∧Aside0 (garmentref14_wrap.l0 kq l0 x4_1 x5_1 x285000_1 x285001_1 = some r)∧Aside0 (kq ≤ k)∧Aside0 (Kd.R k30 30 w' w.heap.size (fun k_=>k_ ≠ gb284) v4 x4_1)∧Aside0 (w'.heap[gb284]? = some (.cells #[.int .i64 x285000_1,.int .i64 x285001_1] 30 (0,0)))∧Aside0 (Below w.heap.size w w'))
  case atStart=>exact ⟨(y285),(0),((rd_T30 t280 0).f0),((rd_T30 t280 0).f1),(by first|rfl|(simp;done)|(simp [*];done)),H',⟨Nat.le_refl _⟩,⟨by (with_reducible repeat (first|apply ra_|apply rn_|apply rd_));exact Kd.R_mono HO287.out (fun _ hk=>hk.2)⟩,⟨by (with_reducible repeat (first|refine kn_ ?_ _|refine kd_ ?_|refine ka_ ?_ _));exact BK284.out⟩,⟨by repeat (first|(with_reducible first|exact HB.out|apply ba_|apply bn_|apply bd_|refine below_set ?_ GE284.out)|exact HB.out)⟩⟩
  case round =>
   clear H'
   try clear c2
   try clear c2b0
   try clear c2b1
   try clear c2b2
   try clear p2
   try clear q2
   try clear hx2
   try clear qi2
   try clear c3
   try clear c4
   try clear c4b0
   try clear c4b1
   try clear hcz8_0
   try clear hcz8_1
   try clear hfz8_0
   try clear hfz8_1
   try clear hx283_0
   try clear hx283_1
   try clear p283
   try clear q283
   obtain ⟨x4_1,x5_1,x285000_1,x285001_1,rfl,HA,HK1,HO_4,BK284,HB⟩:=hrel
   cases gk with
   | zero=>exact absurd HA.out (by simp [garmentref14_wrap.l0])
   | succ k1 =>
    have H:=HA.out
    clear HA
    simp only [garmentref14_wrap.l0] at H
    by_cases c11 : x5_1 < (l0.length : Int)
    ·
     rw [if_pos c11] at H
     have c11b0 : decide (x5_1 < (l0.length : Int)) = true:=decide_eq_true c11
     clear c11
     have H':=Aside0.mk H
     clear H
     have hcz12_0 : wr.cell? ⟨gb284,0,none⟩ = some (.int .i64 x285000_1):=(blk_cell BK284.out 0).trans rfl
     have hcz12_1 : wr.cell? ⟨gb284,1,none⟩ = some (.int .i64 x285001_1):=(blk_cell BK284.out 1).trans rfl
     have hfz12_0:=blk_frozen BK284.out 0
     have hfz12_1:=blk_frozen BK284.out 1
     go_wp2_with (first|((with_reducible refine gate_dst (N:=6) rfl ?_);refine box_event ?hg (N:=6) ?hd (cs:=#[.int .i64 0,.int .i64 0]) (t:=30) ?hr ?_;(case hd=>rfl);(case hg=>rfl);(case hr=>first|(go_simp;done)|(go_simp;rfl));intro gb288 hg w13 hbox hb;have n0_:=Aside0.mk (Kd.R_below (Kd.R_elderB (by (with_reducible repeat (first|apply ra_|apply rn_|apply rd_));exact HO_4.out) gb288 (Nat.le_of_eq hg.symm)) hb);have n1_:=Aside0.mk (blk_below (g:=gb284) (o:=.cells #[.int .i64 x285000_1,.int .i64 x285001_1] 30 (0,0)) (by (with_reducible repeat (first|refine kn_ ?_ _|refine kd_ ?_|refine ka_ ?_ _));exact BK284.out) hb);have n2_:=Aside0.mk (below_step (by repeat (first|(with_reducible first|exact HB.out|apply ba_|apply bn_|apply bd_|refine below_set ?_ GE284.out)|exact HB.out)) hb);have n3_:=Aside0.mk (hbox);have n4_:=Aside0.mk ((by rw [hg];exact (below_size (by repeat (first|(with_reducible first|exact HB.out|apply ba_|apply bn_|apply bd_|refine below_set ?_ GE284.out)|exact HB.out))) : w.heap.size ≤ gb288));have n5_:=Aside0.mk ((by rw [hg];exact (below_size (by repeat (first|(with_reducible first|exact HB.out|apply ba_|apply bn_|apply bd_|refine below_set ?_ GE284.out)|exact HB.out))) : w.heap.size ≤ gb288));have n6_:=Aside0.mk ((by rw [hg];exact Nat.ne_of_lt (blk_lt (g:=gb284) (o:=.cells #[.int .i64 x285000_1,.int .i64 x285001_1] 30 (0,0)) (by (with_reducible repeat (first|refine kn_ ?_ _|refine kd_ ?_|refine ka_ ?_ _));exact BK284.out)) : gb284 ≠ gb288));have n7_:=Aside0.mk ((by rw [hg];exact Nat.ne_of_gt (blk_lt (g:=gb284) (o:=.cells #[.int .i64 x285000_1,.int .i64 x285001_1] 30 (0,0)) (by (with_reducible repeat (first|refine kn_ ?_ _|refine kd_ ?_|refine ka_ ?_ _));exact BK284.out)) : gb288 ≠ gb284));clear HO_4;clear BK284;clear HB;have HO_4:=n0_;have BK284:=n1_;have HB:=n2_;have BK288:=n3_;have GW288:=n4_;have GE288:=n5_;have NB284_288:=n6_;have NB288_284:=n7_;clear n0_ n1_ n2_ n3_ n4_ n5_ n6_ n7_;clear hb hbox hg;have hnb14:=NB288_284.out;have hnc14:=NB284_288.out;have hcz15_0 : w13.cell? ⟨gb288,0,none⟩ = some (.int .i64 0):=(blk_cell BK288.out 0).trans rfl;have hcz15_1 : w13.cell? ⟨gb288,1,none⟩ = some (.int .i64 0):=(blk_cell BK288.out 1).trans rfl;have hfz15_0:=blk_frozen BK288.out 0;have hfz15_1:=blk_frozen BK288.out 1))
     go_loopg [7] k1 (fun kq v7 w'=>∃ (x7_2 : Int) (x289000_2 : Int) (x289001_2 : Int),v7 = .int .i64 x7_2∧Aside0 (garmentref14_wrap.l1 kq l0 x4_1 x5_1 x7_2 x285000_1 x285001_1 x289000_2 x289001_2 = some r)∧Aside0 (kq ≤ k1)∧Aside0 (Kd.R k30 30 w' w.heap.size (fun k_=>k_ ≠ gb284∧k_ ≠ gb288) u4 x4_1)∧Aside0 (w'.heap[gb284]? = some (.cells #[.int .i64 x285000_1,.int .i64 x285001_1] 30 (0,0)))∧Aside0 (w'.heap[gb288]? = some (.cells #[.int .i64 x289000_2,.int .i64 x289001_2] 30 (0,0)))∧Aside0 (Below w.heap.size w w'))
     case atStart=>exact ⟨(0),(x285000_1),(x285001_1),(by first|rfl|(simp;done)|(simp [*];done)),H',⟨Nat.le_refl _⟩,⟨by (with_reducible repeat (first|apply ra_|apply rn_|apply rd_));exact Kd.R_mono (Kd.R_far (p:=⟨gb288,1,none⟩) (Kd.R_far (p:=⟨gb288,0,none⟩) (Kd.R_mono HO_4.out (fun k_ hk=>(⟨hk,hk.2⟩ : _∧k_ ≠ gb288))) (fun _ hk=>hk.2) (.int .i64 x285000_1)) (fun _ hk=>hk.2) (.int .i64 x285001_1)) (fun _ hk=>⟨hk.1.1,hk.1.2⟩)⟩,⟨by (with_reducible repeat (first|refine kn_ ?_ _|refine kd_ ?_|refine ka_ ?_ _));refine blk_far ?_ NB284_288.out _;(with_reducible repeat (first|refine kn_ ?_ _|refine kd_ ?_|refine ka_ ?_ _));refine blk_far ?_ NB284_288.out _;(with_reducible repeat (first|refine kn_ ?_ _|refine kd_ ?_|refine ka_ ?_ _));exact BK284.out⟩,⟨by (with_reducible repeat (first|refine kn_ ?_ _|refine kd_ ?_|refine ka_ ?_ _));refine blk_put (cs:=#[.int .i64 x285000_1,.int .i64 0]) ?_ 1 _ rfl;(with_reducible repeat (first|refine kn_ ?_ _|refine kd_ ?_|refine ka_ ?_ _));refine blk_put (cs:=#[.int .i64 0,.int .i64 0]) ?_ 0 _ rfl;(with_reducible repeat (first|refine kn_ ?_ _|refine kd_ ?_|refine ka_ ?_ _));exact BK288.out⟩,⟨by repeat (first|(with_reducible first|exact HB.out|apply ba_|apply bn_|apply bd_|refine below_set ?_ GE284.out|refine below_set ?_ GE288.out)|exact HB.out)⟩⟩
     case round =>
      clear H'
      try clear c1
      try clear c2
      try clear c2b0
      try clear c2b1
      try clear c2b2
      try clear p2
      try clear q2
      try clear hx2
      try clear qi2
      try clear c3
      try clear c4
      try clear c4b0
      try clear c4b1
      try clear c11
      try clear c11b0
      try clear c14
      try clear hcz12_0
      try clear hcz12_1
      try clear hcz15_0
      try clear hcz15_1
      try clear hcz8_0
      try clear hcz8_1
      try clear hfz12_0
      try clear hfz12_1
      try clear hfz15_0
      try clear hfz15_1
      try clear hfz8_0
      try clear hfz8_1
      try clear hx283_0
      try clear hx283_1
      try clear p2
      try clear p283
      try clear q2
      try clear q283
      obtain ⟨x7_2,x289000_2,x289001_2,rfl,HA,HK2,HO_4,BK284,BK288,HB⟩:=hrel
      cases gk with
      | zero=>exact absurd HA.out (by simp [garmentref14_wrap.l1])
      | succ k2 =>
       have H:=HA.out
       clear HA
       simp only [garmentref14_wrap.l1] at H
       by_cases c16 : x7_2 < (l0.length : Int)
       ·
        rw [if_pos c16] at H
        have c16b0 : decide (x7_2 < (l0.length : Int)) = true:=decide_eq_true c16
        clear c16
        by_cases c17 : 0 ≤ x7_2
        ·
         rw [if_pos c17] at H
         have c17b0 : decide (0 ≤ x7_2) = true:=decide_eq_true c17
         clear c17
         replace H:=Option.bind_eq_some_iff.mp H
         obtain ⟨t290,A180,H⟩:=H
         replace H : (if (!(((rd_T30 l0 x7_2).f0) == x285000_1) || (!(((rd_T30 l0 x7_2).f1) == x285001_1))) = true then (if (x289000_2 == x285000_1 && (x289001_2 == x285001_1)) = true then (garmentref14_wrap.j2 k2 l0 x4_1 x5_1 x7_2 true x285000_1 x285001_1 x289000_2 x289001_2) else (if t290 < 0 then (garmentref14_wrap.j2 k2 l0 x4_1 x5_1 x7_2 true x285000_1 x285001_1 x289000_2 x289001_2) else (if t290 = 0 then ((garmentref14_distance.f x285000_1 x285001_1 ((rd_T30 l0 x7_2).f0) ((rd_T30 l0 x7_2).f1)).bind fun t293=>((garmentref14_distance.f x285000_1 x285001_1 x289000_2 x289001_2).bind fun t294=>(garmentref14_wrap.j2 k2 l0 x4_1 x5_1 x7_2 (decide (t293 > t294)) x285000_1 x285001_1 x289000_2 x289001_2))) else (garmentref14_wrap.j2 k2 l0 x4_1 x5_1 x7_2 false x285000_1 x285001_1 x289000_2 x289001_2)))) else (garmentref14_wrap.j2 k2 l0 x4_1 x5_1 x7_2 false x285000_1 x285001_1 x289000_2 x289001_2)) = some r:=H
         have A18:=Aside0.mk A180
         clear A180
         have HC19:=Aside0.mk H
         clear H
         try go_wp2
         have n0_:=Aside0.mk (rd_ HO_4.out)
         have n1_:=Aside0.mk (kd_ BK284.out)
         have n2_:=Aside0.mk (kd_ BK288.out)
         have n3_:=Aside0.mk (bd_ HB.out)
         clear HO_4
         clear BK284
         clear BK288
         clear HB
         have HO_4:=n0_
         have BK284:=n1_
         have BK288:=n2_
         have HB:=n3_
         clear n0_ n1_ n2_ n3_
         have p289 : 0 ≤ (x7_2 : Int):=of_decide_eq_true (by first|(with_reducible assumption)|assumption)
         have q289 : x7_2 < (l0.length : Int):=of_decide_eq_true (by first|(with_reducible assumption)|assumption)
         obtain ⟨ad289,e289,hx289_0,hx289_1⟩:=at_T30 HR0.out x7_2 p289 q289
         have hw289_1:=hx289_1
         have hw289_0:=hx289_0
         cases e289
         replace hx289_0:=(HB.out.cell (bl_ w _ hx289_0)).trans hx289_0
         replace hx289_1:=(HB.out.cell (bl_ w _ hx289_1)).trans hx289_1
         replace p289:=eq_true p289
         replace q289:=eq_true q289
         refine start_ (n:=8) (S:=fun w'=>w'.cell? ⟨gb284,0,none⟩ = some (.int .i64 x285000_1)∧w'.cell? ⟨gb284,1,none⟩ = some (.int .i64 x285001_1)∧w'.cell? ⟨gb288,0,none⟩ = some (.int .i64 x289000_2)∧w'.cell? ⟨gb288,1,none⟩ = some (.int .i64 x289001_2)∧w'.cell? (ad289.add ((x7_2).toNat * 2)) = some (.int .i64 ((rd_T30 l0 x7_2).f0))∧w'.cell? ⟨(ad289.add ((x7_2).toNat * 2)).block,(ad289.add ((x7_2).toNat * 2)).off + 1,none⟩ = some (.int .i64 ((rd_T30 l0 x7_2).f1))) (ds:=[]) #[false,false,false,false,false,false,false,false] (by kernel_rfl) rfl rfl ⟨(blk_cell BK284.out 0).trans rfl,(blk_cell BK284.out 1).trans rfl,(blk_cell BK288.out 0).trans rfl,(blk_cell BK288.out 1).trans rfl,((HB.out.cell (bl_ w _ hw289_0)).trans hw289_0),((HB.out.cell (bl_ w _ hw289_1)).trans hw289_1)⟩ (fun hHeld=>?_);refine with_tabW garmentref14_wrap.tab12 garmentref14_wrap.bits12 (fun HT_ HW_=>?_)
         generalize wr.drew = w20 at HO_4 BK284 BK288 HB hx289_0 hx289_1 hHeld ⊢
         refine pure_ (i:=2) (N:=some 33) (v:=?_) (a':=?_) #[false,false,true,false,false,false,false,false] rfl rfl (any_of HT_.out (by kernel_rfl)) (fun _ _ _ h=>h) (Or.inl ⟨by rfl,?_⟩) ?_ ?_
         rotate_left
         ·
          intro w'
          go_simp
          with_reducible rfl
         rotate_left
         ·
          simp only [Act.put,la_,l0_,l1_,i64_w,i32_w]
          rfl
         refine pure_ (i:=3) (N:=some 34) (v:=?_) (a':=?_) #[false,false,true,true,false,false,false,false] rfl rfl (any_of HT_.out (by kernel_rfl)) (fun _ _ _ h=>h) (Or.inl ⟨by rfl,?_⟩) ?_ ?_
         rotate_left
         ·
          intro w'
          go_simp
          with_reducible rfl
         rotate_left
         ·
          simp only [Act.put,la_,l0_,l1_,i64_w,i32_w]
          rfl
         refine pure_ (i:=4) (N:=some 35) (v:=?_) (a':=?_) #[false,false,true,true,true,false,false,false] rfl rfl (any_of HT_.out (by kernel_rfl)) (fun _ _ _ h=>h) (Or.inl ⟨by rfl,?_⟩) ?_ ?_
         rotate_left
         ·
          intro w'
          go_simp
          with_reducible rfl
         rotate_left
         ·
          simp only [Act.put,la_,l0_,l1_,i64_w,i32_w]
          rfl
         refine take_ (i:=0) (N:=some 31) (v:=?_) (a':=?_) #[true,false,true,true,true,false,false,false] rfl rfl (take_ofW HT_.out HW_.out (by kernel_rfl)) (fun _ _ _ h=>h) (Or.inl ⟨by rfl,?_⟩) hHeld ?_ ?_
         rotate_left
         ·
          rintro w' ⟨s0,s1,s2,s3,s4,s5⟩
          go_simp
          with_reducible rfl
         rotate_left
         ·
          simp only [Act.put,la_,l0_,l1_,i64_w,i32_w]
          rfl
         refine take_ (i:=1) (N:=some 32) (v:=?_) (a':=?_) #[true,true,true,true,true,false,false,false] rfl rfl (take_ofW HT_.out HW_.out (by kernel_rfl)) (fun _ _ _ h=>h) (Or.inl ⟨by rfl,?_⟩) hHeld ?_ ?_
         rotate_left
         ·
          rintro w' ⟨s0,s1,s2,s3,s4,s5⟩
          go_simp
          with_reducible rfl
         rotate_left
         ·
          simp only [Act.put,la_,l0_,l1_,i64_w,i32_w]
          rfl
         refine take_ (i:=5) (N:=some 36) (v:=?_) (a':=?_) #[true,true,true,true,true,true,false,false] rfl rfl (take_ofW HT_.out HW_.out (by kernel_rfl)) (fun _ _ _ h=>h) (Or.inl ⟨by rfl,?_⟩) hHeld ?_ ?_
         rotate_left
         ·
          rintro w' ⟨s0,s1,s2,s3,s4,s5⟩
          go_simp
          with_reducible rfl
         rotate_left
         ·
          simp only [Act.put,la_,l0_,l1_,i64_w,i32_w]
          rfl
         refine one_ (i:=6) (N:=some 37) #[true,true,true,true,true,true,true,false] rfl rfl (one_of HT_.out (by kernel_rfl)) (by decide) (fun K hK=>?_)
         refine goes_ Try.func23 (by kernel_rfl) rfl #[.agg #[.int .i64 x285000_1,.int .i64 x285001_1],.agg #[.int .i64 x289000_2,.int .i64 x289001_2],.agg #[.int .i64 ((rd_T30 l0 x7_2).f0),.int .i64 ((rd_T30 l0 x7_2).f1)]] (by rfl) rfl rfl (by (try simp only [List.map_toArray,List.map_cons,List.map_nil]);first|done|rfl|(simp only [List.length_drop,List.length_take];rfl)) ?_
         with_reducible refine (garmentref11_Cross.calls x285000_1 x285001_1 x289000_2 x289001_2 ((rd_T30 l0 x7_2).f0) ((rd_T30 l0 x7_2).f1) t290 _ A18.out).mono ?_
         rintro e w21 ⟨rfl,hb⟩
         refine ⟨_,rfl,?_⟩
         have n0_:=Aside0.mk (Kd.R_below (by (with_reducible repeat (first|apply ra_|apply rn_|apply rd_));exact HO_4.out) hb)
         have n1_:=Aside0.mk (blk_below (g:=gb284) (o:=.cells #[.int .i64 x285000_1,.int .i64 x285001_1] 30 (0,0)) (by (with_reducible repeat (first|refine kn_ ?_ _|refine kd_ ?_|refine ka_ ?_ _));exact BK284.out) hb)
         have n2_:=Aside0.mk (blk_below (g:=gb288) (o:=.cells #[.int .i64 x289000_2,.int .i64 x289001_2] 30 (0,0)) (by (with_reducible repeat (first|refine kn_ ?_ _|refine kd_ ?_|refine ka_ ?_ _));exact BK288.out) hb)
         have n3_:=Aside0.mk (below_step (by repeat (first|(with_reducible first|exact HB.out|apply ba_|apply bn_|apply bd_|refine below_set ?_ GE284.out|refine below_set ?_ GE288.out)|exact HB.out)) hb)
         clear HO_4
         clear BK284
         clear BK288
         clear HB
         have HO_4:=n0_
         have BK284:=n1_
         have BK288:=n2_
         have HB:=n3_
         clear n0_ n1_ n2_ n3_
         (try clear hb)
         (try clear hb2)
         (try clear hk)
         (try clear hi)
         refine hK.out _ _ ⟨(blk_cell BK284.out 0).trans rfl,(blk_cell BK284.out 1).trans rfl,(blk_cell BK288.out 0).trans rfl,(blk_cell BK288.out 1).trans rfl,((HB.out.cell (bl_ w _ hw289_0)).trans hw289_0),((HB.out.cell (bl_ w _ hw289_1)).trans hw289_1)⟩ (fun hHeld=>?_)
         clear hK K
         refine norm_ (a':=?_) ?_ ?_
         rotate_left
         ·
          show Act.put _ (some 37) _ = _
          simp only [Act.put,la_,l0_,l1_,i64_w,i32_w]
          rfl
         refine pure_ (i:=7) (N:=some 8) (v:=?_) (a':=?_) #[true,true,true,true,true,true,true,true] rfl rfl (any_of HT_.out (by kernel_rfl)) (fun _ _ _ h=>h) (Or.inl ⟨by rfl,?_⟩) ?_ ?_
         rotate_left
         ·
          intro w'
          go_simp
          with_reducible rfl
         rotate_left
         ·
          simp only [Act.put,la_,l0_,l1_,i64_w,i32_w]
          rfl
         refine done_ (done_of HT_.out (by kernel_rfl)) ?_
         go_upto_region 13 with (fail)
         go_cut [68] (fun v68 wc=>∃ (kq : Nat) (x68_18 : Bool),v68 = .bool x68_18∧Aside0 (garmentref14_wrap.j2 kq l0 x4_1 x5_1 x7_2 x68_18 x285000_1 x285001_1 x289000_2 x289001_2 = some r)∧Aside0 (kq ≤ k2)∧Aside0 (Kd.R k30 30 wc w.heap.size (fun k_=>k_ ≠ gb284∧k_ ≠ gb288) u4 x4_1)∧Aside0 (wc.heap[gb284]? = some (.cells #[.int .i64 x285000_1,.int .i64 x285001_1] 30 (0,0)))∧Aside0 (wc.heap[gb288]? = some (.cells #[.int .i64 x289000_2,.int .i64 x289001_2] 30 (0,0)))∧Aside0 (Below w.heap.size w wc))
         case first =>
          have H:=HC19.out
          clear HC19
          by_cases c22 : (!(((rd_T30 l0 x7_2).f0) == x285000_1) || (!(((rd_T30 l0 x7_2).f1) == x285001_1))) = true
          ·
           rw [if_pos c22] at H
           have c22b0 : (!(((rd_T30 l0 x7_2).f0) == x285000_1) || (!(((rd_T30 l0 x7_2).f1) == x285001_1))) = true:=c22
           clear c22
           (first|rw [c22b0]|(simp only [i64_w,i32_w];rw [c22b0])|skip)
           by_cases c23 : (x289000_2 == x285000_1 && (x289001_2 == x285001_1)) = true
           ·
            rw [if_pos c23] at H
            have c23b0 : (x289000_2 == x285000_1 && (x289001_2 == x285001_1)) = true:=c23
            (try (have c23b1 : decide (x289000_2 = x285000_1 && (x289001_2 == x285001_1)) = true:=by simpa using c23))
            (try (have c23b2 : (x289000_2 == x285000_1 && (x289001_2 == x285001_1)) = true:=by simpa using c23))
            clear c23
            have H':=Aside0.mk H
            clear H
            try go_wp2
            have n0_:=Aside0.mk (rd_ HO_4.out)
            have n1_:=Aside0.mk (kd_ BK284.out)
            have n2_:=Aside0.mk (kd_ BK288.out)
            have n3_:=Aside0.mk (bd_ HB.out)
            clear HO_4
            clear BK284
            clear BK288
            clear HB
            have HO_4:=n0_
            have BK284:=n1_
            have BK288:=n2_
            have HB:=n3_
            clear n0_ n1_ n2_ n3_
            have p291 : 0 ≤ (x7_2 : Int):=of_decide_eq_true (by first|(with_reducible assumption)|assumption)
            have q291 : x7_2 < (l0.length : Int):=of_decide_eq_true (by first|(with_reducible assumption)|assumption)
            obtain ⟨ad291,e291,hx291_0,hx291_1⟩:=at_T30 HR0.out x7_2 p291 q291
            have hw291_1:=hx291_1
            have hw291_0:=hx291_0
            obtain rfl : ad289 = ad291:=(by injection e291)
            replace hx291_0:=(HB.out.cell (bl_ w _ hx291_0)).trans hx291_0
            replace hx291_1:=(HB.out.cell (bl_ w _ hx291_1)).trans hx291_1
            replace p291:=eq_true p291
            replace q291:=eq_true q291
            refine start_ (n:=31) (S:=fun w'=>w'.cell? ⟨gb284,0,none⟩ = some (.int .i64 x285000_1)∧w'.cell? ⟨gb284,1,none⟩ = some (.int .i64 x285001_1)∧w'.cell? ⟨gb288,0,none⟩ = some (.int .i64 x289000_2)∧w'.cell? ⟨gb288,1,none⟩ = some (.int .i64 x289001_2)∧w'.cell? (ad289.add ((x7_2).toNat * 2)) = some (.int .i64 ((rd_T30 l0 x7_2).f0))∧w'.cell? ⟨(ad289.add ((x7_2).toNat * 2)).block,(ad289.add ((x7_2).toNat * 2)).off + 1,none⟩ = some (.int .i64 ((rd_T30 l0 x7_2).f1))) (ds:=[]) #[false,false,false,false,false,false,false,false,false,false,false,false,false,false,false,false,false,false,false,false,false,false,false,false,false,false,false,false,false,false,false] (by kernel_rfl) rfl rfl ⟨(blk_cell BK284.out 0).trans rfl,(blk_cell BK284.out 1).trans rfl,(blk_cell BK288.out 0).trans rfl,(blk_cell BK288.out 1).trans rfl,((HB.out.cell (bl_ w _ hw291_0)).trans hw291_0),((HB.out.cell (bl_ w _ hw291_1)).trans hw291_1)⟩ (fun hHeld=>?_);refine with_tabW garmentref14_wrap.tab13 garmentref14_wrap.bits13 (fun HT_ HW_=>?_)
            generalize w21.drew = w24 at HO_4 BK284 BK288 HB hx291_0 hx291_1 hHeld ⊢
            refine pure_ (i:=0) (N:=some 38) (v:=?_) (a':=?_) #[true,false,false,false,false,false,false,false,false,false,false,false,false,false,false,false,false,false,false,false,false,false,false,false,false,false,false,false,false,false,false] rfl rfl (any_of HT_.out (by kernel_rfl)) (fun _ _ _ h=>h) (Or.inl ⟨by rfl,?_⟩) ?_ ?_
            rotate_left
            ·
             intro w'
             go_simp
             with_reducible rfl
            rotate_left
            ·
             simp only [Act.put,la_,l0_,l1_,i64_w,i32_w]
             rfl
            refine pure_ (i:=1) (N:=some 39) (v:=?_) (a':=?_) #[true,true,false,false,false,false,false,false,false,false,false,false,false,false,false,false,false,false,false,false,false,false,false,false,false,false,false,false,false,false,false] rfl rfl (any_of HT_.out (by kernel_rfl)) (fun _ _ _ h=>h) (Or.inl ⟨by rfl,?_⟩) ?_ ?_
            rotate_left
            ·
             intro w'
             go_simp
             with_reducible rfl
            rotate_left
            ·
             simp only [Act.put,la_,l0_,l1_,i64_w,i32_w]
             rfl
            refine pure_ (i:=2) (N:=some 40) (v:=?_) (a':=?_) #[true,true,true,false,false,false,false,false,false,false,false,false,false,false,false,false,false,false,false,false,false,false,false,false,false,false,false,false,false,false,false] rfl rfl (any_of HT_.out (by kernel_rfl)) (fun _ _ _ h=>h) (Or.inl ⟨by rfl,?_⟩) ?_ ?_
            rotate_left
            ·
             intro w'
             go_simp
             with_reducible rfl
            rotate_left
            ·
             simp only [Act.put,la_,l0_,l1_,i64_w,i32_w]
             rfl
            refine take_ (i:=3) (N:=some 41) (v:=?_) (a':=?_) #[true,true,true,true,false,false,false,false,false,false,false,false,false,false,false,false,false,false,false,false,false,false,false,false,false,false,false,false,false,false,false] rfl rfl (take_ofW HT_.out HW_.out (by kernel_rfl)) (fun _ _ _ h=>h) (Or.inl ⟨by rfl,?_⟩) hHeld ?_ ?_
            rotate_left
            ·
             rintro w' ⟨s0,s1,s2,s3,s4,s5⟩
             go_simp
             with_reducible rfl
            rotate_left
            ·
             simp only [Act.put,la_,l0_,l1_,i64_w,i32_w]
             rfl
            refine take_ (i:=4) (N:=some 42) (v:=?_) (a':=?_) #[true,true,true,true,true,false,false,false,false,false,false,false,false,false,false,false,false,false,false,false,false,false,false,false,false,false,false,false,false,false,false] rfl rfl (take_ofW HT_.out HW_.out (by kernel_rfl)) (fun _ _ _ h=>h) (Or.inl ⟨by rfl,?_⟩) hHeld ?_ ?_
            rotate_left
            ·
             rintro w' ⟨s0,s1,s2,s3,s4,s5⟩
             go_simp
             with_reducible rfl
            rotate_left
            ·
             simp only [Act.put,la_,l0_,l1_,i64_w,i32_w]
             rfl
            refine pure_ (i:=5) (N:=some 43) (v:=?_) (a':=?_) #[true,true,true,true,true,true,false,false,false,false,false,false,false,false,false,false,false,false,false,false,false,false,false,false,false,false,false,false,false,false,false] rfl rfl (any_of HT_.out (by kernel_rfl)) (fun _ _ _ h=>h) (Or.inl ⟨by rfl,?_⟩) ?_ ?_
            rotate_left
            ·
             intro w'
             go_simp
             with_reducible rfl
            rotate_left
            ·
             simp only [Act.put,la_,l0_,l1_,i64_w,i32_w]
             rfl
            refine pure_ (i:=6) (N:=some 44) (v:=?_) (a':=?_) #[true,true,true,true,true,true,true,false,false,false,false,false,false,false,false,false,false,false,false,false,false,false,false,false,false,false,false,false,false,false,false] rfl rfl (any_of HT_.out (by kernel_rfl)) (fun _ _ _ h=>h) (Or.inl ⟨by rfl,?_⟩) ?_ ?_
            rotate_left
            ·
             intro w'
             go_simp
             with_reducible rfl
            rotate_left
            ·
             simp only [Act.put,la_,l0_,l1_,i64_w,i32_w]
             rfl
            refine take_ (i:=7) (N:=some 45) (v:=?_) (a':=?_) #[true,true,true,true,true,true,true,true,false,false,false,false,false,false,false,false,false,false,false,false,false,false,false,false,false,false,false,false,false,false,false] rfl rfl (take_ofW HT_.out HW_.out (by kernel_rfl)) (fun _ _ _ h=>h) (Or.inl ⟨by rfl,?_⟩) hHeld ?_ ?_
            rotate_left
            ·
             rintro w' ⟨s0,s1,s2,s3,s4,s5⟩
             go_simp
             with_reducible rfl
            rotate_left
            ·
             simp only [Act.put,la_,l0_,l1_,i64_w,i32_w]
             rfl
            refine take_ (i:=8) (N:=some 46) (v:=?_) (a':=?_) #[true,true,true,true,true,true,true,true,true,false,false,false,false,false,false,false,false,false,false,false,false,false,false,false,false,false,false,false,false,false,false] rfl rfl (take_ofW HT_.out HW_.out (by kernel_rfl)) (fun _ _ _ h=>h) (Or.inl ⟨by rfl,?_⟩) hHeld ?_ ?_
            rotate_left
            ·
             rintro w' ⟨s0,s1,s2,s3,s4,s5⟩
             go_simp
             with_reducible rfl
            rotate_left
            ·
             simp only [Act.put,la_,l0_,l1_,i64_w,i32_w]
             rfl
            refine pure_ (i:=9) (N:=some 47) (v:=?_) (a':=?_) #[true,true,true,true,true,true,true,true,true,true,false,false,false,false,false,false,false,false,false,false,false,false,false,false,false,false,false,false,false,false,false] rfl rfl (any_of HT_.out (by kernel_rfl)) (fun _ _ _ h=>h) (Or.inl ⟨by rfl,?_⟩) ?_ ?_
            rotate_left
            ·
             intro w'
             go_simp
             with_reducible rfl
            rotate_left
            ·
             simp only [Act.put,la_,l0_,l1_,i64_w,i32_w]
             rfl
            refine pure_ (i:=10) (N:=some 48) (v:=?_) (a':=?_) #[true,true,true,true,true,true,true,true,true,true,true,false,false,false,false,false,false,false,false,false,false,false,false,false,false,false,false,false,false,false,false] rfl rfl (any_of HT_.out (by kernel_rfl)) (fun _ _ _ h=>h) (Or.inl ⟨by rfl,?_⟩) ?_ ?_
            rotate_left
            ·
             intro w'
             go_simp
             with_reducible rfl
            rotate_left
            ·
             simp only [Act.put,la_,l0_,l1_,i64_w,i32_w]
             rfl
            refine pure_ (i:=11) (N:=some 49) (v:=undef) (a':=?_) #[true,true,true,true,true,true,true,true,true,true,true,true,false,false,false,false,false,false,false,false,false,false,false,false,false,false,false,false,false,false,false] rfl rfl (any_of HT_.out (by kernel_rfl)) (fun _ _ _ h=>h) (Or.inr ⟨by rfl,rfl⟩) ?_ ?_
            rotate_left
            ·
             simp only [Act.put,la_,l0_,l1_,i64_w,i32_w]
             rfl
            refine pure_ (i:=12) (N:=some 50) (v:=undef) (a':=?_) #[true,true,true,true,true,true,true,true,true,true,true,true,true,false,false,false,false,false,false,false,false,false,false,false,false,false,false,false,false,false,false] rfl rfl (any_of HT_.out (by kernel_rfl)) (fun _ _ _ h=>h) (Or.inr ⟨by rfl,rfl⟩) ?_ ?_
            rotate_left
            ·
             simp only [Act.put,la_,l0_,l1_,i64_w,i32_w]
             rfl
            refine pure_ (i:=13) (N:=some 51) (v:=?_) (a':=?_) #[true,true,true,true,true,true,true,true,true,true,true,true,true,true,false,false,false,false,false,false,false,false,false,false,false,false,false,false,false,false,false] rfl rfl (any_of HT_.out (by kernel_rfl)) (fun _ _ _ h=>h) (Or.inl ⟨by rfl,?_⟩) ?_ ?_
            rotate_left
            ·
             intro w'
             go_simp
             with_reducible rfl
            rotate_left
            ·
             simp only [Act.put,la_,l0_,l1_,i64_w,i32_w]
             rfl
            refine pure_ (i:=14) (N:=some 52) (v:=?_) (a':=?_) #[true,true,true,true,true,true,true,true,true,true,true,true,true,true,true,false,false,false,false,false,false,false,false,false,false,false,false,false,false,false,false] rfl rfl (any_of HT_.out (by kernel_rfl)) (fun _ _ _ h=>h) (Or.inl ⟨by rfl,?_⟩) ?_ ?_
            rotate_left
            ·
             intro w'
             go_simp
             with_reducible rfl
            rotate_left
            ·
             simp only [Act.put,la_,l0_,l1_,i64_w,i32_w]
             rfl
            refine pure_ (i:=15) (N:=some 53) (v:=undef) (a':=?_) #[true,true,true,true,true,true,true,true,true,true,true,true,true,true,true,true,false,false,false,false,false,false,false,false,false,false,false,false,false,false,false] rfl rfl (any_of HT_.out (by kernel_rfl)) (fun _ _ _ h=>h) (Or.inr ⟨by rfl,rfl⟩) ?_ ?_
            rotate_left
            ·
             simp only [Act.put,la_,l0_,l1_,i64_w,i32_w]
             rfl
            refine pure_ (i:=16) (N:=some 54) (v:=undef) (a':=?_) #[true,true,true,true,true,true,true,true,true,true,true,true,true,true,true,true,true,false,false,false,false,false,false,false,false,false,false,false,false,false,false] rfl rfl (any_of HT_.out (by kernel_rfl)) (fun _ _ _ h=>h) (Or.inr ⟨by rfl,rfl⟩) ?_ ?_
            rotate_left
            ·
             simp only [Act.put,la_,l0_,l1_,i64_w,i32_w]
             rfl
            refine pure_ (i:=17) (N:=some 55) (v:=undef) (a':=?_) #[true,true,true,true,true,true,true,true,true,true,true,true,true,true,true,true,true,true,false,false,false,false,false,false,false,false,false,false,false,false,false] rfl rfl (any_of HT_.out (by kernel_rfl)) (fun _ _ _ h=>h) (Or.inr ⟨by rfl,rfl⟩) ?_ ?_
            rotate_left
            ·
             simp only [Act.put,la_,l0_,l1_,i64_w,i32_w]
             rfl
            refine pure_ (i:=18) (N:=some 56) (v:=undef) (a':=?_) #[true,true,true,true,true,true,true,true,true,true,true,true,true,true,true,true,true,true,true,false,false,false,false,false,false,false,false,false,false,false,false] rfl rfl (any_of HT_.out (by kernel_rfl)) (fun _ _ _ h=>h) (Or.inr ⟨by rfl,rfl⟩) ?_ ?_
            rotate_left
            ·
             simp only [Act.put,la_,l0_,l1_,i64_w,i32_w]
             rfl
            refine pure_ (i:=19) (N:=some 57) (v:=undef) (a':=?_) #[true,true,true,true,true,true,true,true,true,true,true,true,true,true,true,true,true,true,true,true,false,false,false,false,false,false,false,false,false,false,false] rfl rfl (any_of HT_.out (by kernel_rfl)) (fun _ _ _ h=>h) (Or.inr ⟨by rfl,rfl⟩) ?_ ?_
            rotate_left
            ·
             simp only [Act.put,la_,l0_,l1_,i64_w,i32_w]
             rfl
            refine pure_ (i:=20) (N:=some 58) (v:=undef) (a':=?_) #[true,true,true,true,true,true,true,true,true,true,true,true,true,true,true,true,true,true,true,true,true,false,false,false,false,false,false,false,false,false,false] rfl rfl (any_of HT_.out (by kernel_rfl)) (fun _ _ _ h=>h) (Or.inr ⟨by rfl,rfl⟩) ?_ ?_
            rotate_left
            ·
             simp only [Act.put,la_,l0_,l1_,i64_w,i32_w]
             rfl
            refine pure_ (i:=21) (N:=some 59) (v:=undef) (a':=?_) #[true,true,true,true,true,true,true,true,true,true,true,true,true,true,true,true,true,true,true,true,true,true,false,false,false,false,false,false,false,false,false] rfl rfl (any_of HT_.out (by kernel_rfl)) (fun _ _ _ h=>h) (Or.inr ⟨by rfl,rfl⟩) ?_ ?_
            rotate_left
            ·
             simp only [Act.put,la_,l0_,l1_,i64_w,i32_w]
             rfl
            refine pure_ (i:=22) (N:=some 60) (v:=undef) (a':=?_) #[true,true,true,true,true,true,true,true,true,true,true,true,true,true,true,true,true,true,true,true,true,true,true,false,false,false,false,false,false,false,false] rfl rfl (any_of HT_.out (by kernel_rfl)) (fun _ _ _ h=>h) (Or.inr ⟨by rfl,rfl⟩) ?_ ?_
            rotate_left
            ·
             simp only [Act.put,la_,l0_,l1_,i64_w,i32_w]
             rfl
            refine pure_ (i:=23) (N:=some 61) (v:=undef) (a':=?_) #[true,true,true,true,true,true,true,true,true,true,true,true,true,true,true,true,true,true,true,true,true,true,true,true,false,false,false,false,false,false,false] rfl rfl (any_of HT_.out (by kernel_rfl)) (fun _ _ _ h=>h) (Or.inr ⟨by rfl,rfl⟩) ?_ ?_
            rotate_left
            ·
             simp only [Act.put,la_,l0_,l1_,i64_w,i32_w]
             rfl
            refine pure_ (i:=24) (N:=some 62) (v:=undef) (a':=?_) #[true,true,true,true,true,true,true,true,true,true,true,true,true,true,true,true,true,true,true,true,true,true,true,true,true,false,false,false,false,false,false] rfl rfl (any_of HT_.out (by kernel_rfl)) (fun _ _ _ h=>h) (Or.inr ⟨by rfl,rfl⟩) ?_ ?_
            rotate_left
            ·
             simp only [Act.put,la_,l0_,l1_,i64_w,i32_w]
             rfl
            refine pure_ (i:=25) (N:=some 63) (v:=undef) (a':=?_) #[true,true,true,true,true,true,true,true,true,true,true,true,true,true,true,true,true,true,true,true,true,true,true,true,true,true,false,false,false,false,false] rfl rfl (any_of HT_.out (by kernel_rfl)) (fun _ _ _ h=>h) (Or.inr ⟨by rfl,rfl⟩) ?_ ?_
            rotate_left
            ·
             simp only [Act.put,la_,l0_,l1_,i64_w,i32_w]
             rfl
            refine pure_ (i:=26) (N:=some 64) (v:=undef) (a':=?_) #[true,true,true,true,true,true,true,true,true,true,true,true,true,true,true,true,true,true,true,true,true,true,true,true,true,true,true,false,false,false,false] rfl rfl (any_of HT_.out (by kernel_rfl)) (fun _ _ _ h=>h) (Or.inr ⟨by rfl,rfl⟩) ?_ ?_
            rotate_left
            ·
             simp only [Act.put,la_,l0_,l1_,i64_w,i32_w]
             rfl
            refine pure_ (i:=27) (N:=some 65) (v:=undef) (a':=?_) #[true,true,true,true,true,true,true,true,true,true,true,true,true,true,true,true,true,true,true,true,true,true,true,true,true,true,true,true,false,false,false] rfl rfl (any_of HT_.out (by kernel_rfl)) (fun _ _ _ h=>h) (Or.inr ⟨by rfl,rfl⟩) ?_ ?_
            rotate_left
            ·
             simp only [Act.put,la_,l0_,l1_,i64_w,i32_w]
             rfl
            refine pure_ (i:=28) (N:=some 66) (v:=undef) (a':=?_) #[true,true,true,true,true,true,true,true,true,true,true,true,true,true,true,true,true,true,true,true,true,true,true,true,true,true,true,true,true,false,false] rfl rfl (any_of HT_.out (by kernel_rfl)) (fun _ _ _ h=>h) (Or.inr ⟨by rfl,rfl⟩) ?_ ?_
            rotate_left
            ·
             simp only [Act.put,la_,l0_,l1_,i64_w,i32_w]
             rfl
            refine pure_ (i:=29) (N:=some 67) (v:=?_) (a':=?_) #[true,true,true,true,true,true,true,true,true,true,true,true,true,true,true,true,true,true,true,true,true,true,true,true,true,true,true,true,true,true,false] rfl rfl (any_of HT_.out (by kernel_rfl)) (fun _ _ _ h=>h) (Or.inl ⟨by rfl,?_⟩) ?_ ?_
            rotate_left
            ·
             intro w'
             go_simp
             with_reducible rfl
            rotate_left
            ·
             simp only [Act.put,la_,l0_,l1_,i64_w,i32_w]
             rfl
            refine pure_ (i:=30) (N:=some 68) (v:=?_) (a':=?_) #[true,true,true,true,true,true,true,true,true,true,true,true,true,true,true,true,true,true,true,true,true,true,true,true,true,true,true,true,true,true,true] rfl rfl (any_of HT_.out (by kernel_rfl)) (fun _ _ _ h=>h) (Or.inl ⟨by rfl,?_⟩) ?_ ?_
            rotate_left
            ·
             intro w'
             go_simp
             with_reducible rfl
            rotate_left
            ·
             simp only [Act.put,la_,l0_,l1_,i64_w,i32_w]
             rfl
            refine done_ (done_of HT_.out (by kernel_rfl)) ?_
            try go_wp2
            go_meet
            case rel=>exact ⟨_,(true),(by first|rfl|(simp;done)|(simp [*];done)),H',⟨by have:=HK1.out;have:=HK2.out;first|omega|exact Nat.le_refl _⟩,⟨by (with_reducible repeat (first|apply ra_|apply rn_|apply rd_));exact HO_4.out⟩,⟨by (with_reducible repeat (first|refine kn_ ?_ _|refine kd_ ?_|refine ka_ ?_ _));exact BK284.out⟩,⟨by (with_reducible repeat (first|refine kn_ ?_ _|refine kd_ ?_|refine ka_ ?_ _));exact BK288.out⟩,⟨by repeat (first|(with_reducible first|exact HB.out|apply ba_|apply bn_|apply bd_|refine below_set ?_ GE284.out|refine below_set ?_ GE288.out)|exact HB.out)⟩⟩
           rw [if_neg c23] at H
           have c23b0 : (x289000_2 == x285000_1 && (x289001_2 == x285001_1)) = false:=by simpa using c23
           (try (have c23b1 : decide (x289000_2 = x285000_1 && (x289001_2 == x285001_1)) = false:=by simpa using c23))
           (try (have c23b2 : (x289000_2 == x285000_1 && (x289001_2 == x285001_1)) = false:=by simpa using c23))
           (try (have c23b3 : ¬ (x289000_2 = x285000_1 && (x289001_2 == x285001_1)):=by simpa using c23))
           clear c23
           by_cases c25 : t290 < 0
           ·
            rw [if_pos c25] at H
            have c25b0 : decide (t290 < 0) = true:=decide_eq_true c25
            clear c25
            have H':=Aside0.mk H
            clear H
            try go_wp2
            have n0_:=Aside0.mk (rd_ HO_4.out)
            have n1_:=Aside0.mk (kd_ BK284.out)
            have n2_:=Aside0.mk (kd_ BK288.out)
            have n3_:=Aside0.mk (bd_ HB.out)
            clear HO_4
            clear BK284
            clear BK288
            clear HB
            have HO_4:=n0_
            have BK284:=n1_
            have BK288:=n2_
            have HB:=n3_
            clear n0_ n1_ n2_ n3_
            have p291 : 0 ≤ (x7_2 : Int):=of_decide_eq_true (by first|(with_reducible assumption)|assumption)
            have q291 : x7_2 < (l0.length : Int):=of_decide_eq_true (by first|(with_reducible assumption)|assumption)
            obtain ⟨ad291,e291,hx291_0,hx291_1⟩:=at_T30 HR0.out x7_2 p291 q291
            have hw291_1:=hx291_1
            have hw291_0:=hx291_0
            obtain rfl : ad289 = ad291:=(by injection e291)
            replace hx291_0:=(HB.out.cell (bl_ w _ hx291_0)).trans hx291_0
            replace hx291_1:=(HB.out.cell (bl_ w _ hx291_1)).trans hx291_1
            replace p291:=eq_true p291
            replace q291:=eq_true q291
            refine start_ (n:=31) (S:=fun w'=>w'.cell? ⟨gb284,0,none⟩ = some (.int .i64 x285000_1)∧w'.cell? ⟨gb284,1,none⟩ = some (.int .i64 x285001_1)∧w'.cell? ⟨gb288,0,none⟩ = some (.int .i64 x289000_2)∧w'.cell? ⟨gb288,1,none⟩ = some (.int .i64 x289001_2)∧w'.cell? (ad289.add ((x7_2).toNat * 2)) = some (.int .i64 ((rd_T30 l0 x7_2).f0))∧w'.cell? ⟨(ad289.add ((x7_2).toNat * 2)).block,(ad289.add ((x7_2).toNat * 2)).off + 1,none⟩ = some (.int .i64 ((rd_T30 l0 x7_2).f1))) (ds:=[]) #[false,false,false,false,false,false,false,false,false,false,false,false,false,false,false,false,false,false,false,false,false,false,false,false,false,false,false,false,false,false,false] (by kernel_rfl) rfl rfl ⟨(blk_cell BK284.out 0).trans rfl,(blk_cell BK284.out 1).trans rfl,(blk_cell BK288.out 0).trans rfl,(blk_cell BK288.out 1).trans rfl,((HB.out.cell (bl_ w _ hw291_0)).trans hw291_0),((HB.out.cell (bl_ w _ hw291_1)).trans hw291_1)⟩ (fun hHeld=>?_);refine with_tabW garmentref14_wrap.tab13 garmentref14_wrap.bits13 (fun HT_ HW_=>?_)
            generalize w21.drew = w26 at HO_4 BK284 BK288 HB hx291_0 hx291_1 hHeld ⊢
            refine pure_ (i:=0) (N:=some 38) (v:=?_) (a':=?_) #[true,false,false,false,false,false,false,false,false,false,false,false,false,false,false,false,false,false,false,false,false,false,false,false,false,false,false,false,false,false,false] rfl rfl (any_of HT_.out (by kernel_rfl)) (fun _ _ _ h=>h) (Or.inl ⟨by rfl,?_⟩) ?_ ?_
            rotate_left
            ·
             intro w'
             go_simp
             with_reducible rfl
            rotate_left
            ·
             simp only [Act.put,la_,l0_,l1_,i64_w,i32_w]
             rfl
            refine pure_ (i:=1) (N:=some 39) (v:=?_) (a':=?_) #[true,true,false,false,false,false,false,false,false,false,false,false,false,false,false,false,false,false,false,false,false,false,false,false,false,false,false,false,false,false,false] rfl rfl (any_of HT_.out (by kernel_rfl)) (fun _ _ _ h=>h) (Or.inl ⟨by rfl,?_⟩) ?_ ?_
            rotate_left
            ·
             intro w'
             go_simp
             with_reducible rfl
            rotate_left
            ·
             simp only [Act.put,la_,l0_,l1_,i64_w,i32_w]
             rfl
            refine pure_ (i:=2) (N:=some 40) (v:=?_) (a':=?_) #[true,true,true,false,false,false,false,false,false,false,false,false,false,false,false,false,false,false,false,false,false,false,false,false,false,false,false,false,false,false,false] rfl rfl (any_of HT_.out (by kernel_rfl)) (fun _ _ _ h=>h) (Or.inl ⟨by rfl,?_⟩) ?_ ?_
            rotate_left
            ·
             intro w'
             go_simp
             with_reducible rfl
            rotate_left
            ·
             simp only [Act.put,la_,l0_,l1_,i64_w,i32_w]
             rfl
            refine take_ (i:=3) (N:=some 41) (v:=?_) (a':=?_) #[true,true,true,true,false,false,false,false,false,false,false,false,false,false,false,false,false,false,false,false,false,false,false,false,false,false,false,false,false,false,false] rfl rfl (take_ofW HT_.out HW_.out (by kernel_rfl)) (fun _ _ _ h=>h) (Or.inl ⟨by rfl,?_⟩) hHeld ?_ ?_
            rotate_left
            ·
             rintro w' ⟨s0,s1,s2,s3,s4,s5⟩
             go_simp
             with_reducible rfl
            rotate_left
            ·
             simp only [Act.put,la_,l0_,l1_,i64_w,i32_w]
             rfl
            refine take_ (i:=4) (N:=some 42) (v:=?_) (a':=?_) #[true,true,true,true,true,false,false,false,false,false,false,false,false,false,false,false,false,false,false,false,false,false,false,false,false,false,false,false,false,false,false] rfl rfl (take_ofW HT_.out HW_.out (by kernel_rfl)) (fun _ _ _ h=>h) (Or.inl ⟨by rfl,?_⟩) hHeld ?_ ?_
            rotate_left
            ·
             rintro w' ⟨s0,s1,s2,s3,s4,s5⟩
             go_simp
             with_reducible rfl
            rotate_left
            ·
             simp only [Act.put,la_,l0_,l1_,i64_w,i32_w]
             rfl
            refine pure_ (i:=5) (N:=some 43) (v:=?_) (a':=?_) #[true,true,true,true,true,true,false,false,false,false,false,false,false,false,false,false,false,false,false,false,false,false,false,false,false,false,false,false,false,false,false] rfl rfl (any_of HT_.out (by kernel_rfl)) (fun _ _ _ h=>h) (Or.inl ⟨by rfl,?_⟩) ?_ ?_
            rotate_left
            ·
             intro w'
             go_simp
             with_reducible rfl
            rotate_left
            ·
             simp only [Act.put,la_,l0_,l1_,i64_w,i32_w]
             rfl
            refine pure_ (i:=6) (N:=some 44) (v:=?_) (a':=?_) #[true,true,true,true,true,true,true,false,false,false,false,false,false,false,false,false,false,false,false,false,false,false,false,false,false,false,false,false,false,false,false] rfl rfl (any_of HT_.out (by kernel_rfl)) (fun _ _ _ h=>h) (Or.inl ⟨by rfl,?_⟩) ?_ ?_
            rotate_left
            ·
             intro w'
             go_simp
             with_reducible rfl
            rotate_left
            ·
             simp only [Act.put,la_,l0_,l1_,i64_w,i32_w]
             rfl
            refine take_ (i:=7) (N:=some 45) (v:=?_) (a':=?_) #[true,true,true,true,true,true,true,true,false,false,false,false,false,false,false,false,false,false,false,false,false,false,false,false,false,false,false,false,false,false,false] rfl rfl (take_ofW HT_.out HW_.out (by kernel_rfl)) (fun _ _ _ h=>h) (Or.inl ⟨by rfl,?_⟩) hHeld ?_ ?_
            rotate_left
            ·
             rintro w' ⟨s0,s1,s2,s3,s4,s5⟩
             go_simp
             with_reducible rfl
            rotate_left
            ·
             simp only [Act.put,la_,l0_,l1_,i64_w,i32_w]
             rfl
            refine take_ (i:=8) (N:=some 46) (v:=?_) (a':=?_) #[true,true,true,true,true,true,true,true,true,false,false,false,false,false,false,false,false,false,false,false,false,false,false,false,false,false,false,false,false,false,false] rfl rfl (take_ofW HT_.out HW_.out (by kernel_rfl)) (fun _ _ _ h=>h) (Or.inl ⟨by rfl,?_⟩) hHeld ?_ ?_
            rotate_left
            ·
             rintro w' ⟨s0,s1,s2,s3,s4,s5⟩
             go_simp
             with_reducible rfl
            rotate_left
            ·
             simp only [Act.put,la_,l0_,l1_,i64_w,i32_w]
             rfl
            refine pure_ (i:=9) (N:=some 47) (v:=?_) (a':=?_) #[true,true,true,true,true,true,true,true,true,true,false,false,false,false,false,false,false,false,false,false,false,false,false,false,false,false,false,false,false,false,false] rfl rfl (any_of HT_.out (by kernel_rfl)) (fun _ _ _ h=>h) (Or.inl ⟨by rfl,?_⟩) ?_ ?_
            rotate_left
            ·
             intro w'
             go_simp
             with_reducible rfl
            rotate_left
            ·
             simp only [Act.put,la_,l0_,l1_,i64_w,i32_w]
             rfl
            refine pure_ (i:=10) (N:=some 48) (v:=?_) (a':=?_) #[true,true,true,true,true,true,true,true,true,true,true,false,false,false,false,false,false,false,false,false,false,false,false,false,false,false,false,false,false,false,false] rfl rfl (any_of HT_.out (by kernel_rfl)) (fun _ _ _ h=>h) (Or.inl ⟨by rfl,?_⟩) ?_ ?_
            rotate_left
            ·
             intro w'
             go_simp
             with_reducible rfl
            rotate_left
            ·
             simp only [Act.put,la_,l0_,l1_,i64_w,i32_w]
             rfl
            refine pure_ (i:=11) (N:=some 49) (v:=?_) (a':=?_) #[true,true,true,true,true,true,true,true,true,true,true,true,false,false,false,false,false,false,false,false,false,false,false,false,false,false,false,false,false,false,false] rfl rfl (any_of HT_.out (by kernel_rfl)) (fun _ _ _ h=>h) (Or.inl ⟨by rfl,?_⟩) ?_ ?_
            rotate_left
            ·
             intro w'
             go_simp
             with_reducible rfl
            rotate_left
            ·
             simp only [Act.put,la_,l0_,l1_,i64_w,i32_w]
             rfl
            refine pure_ (i:=12) (N:=some 50) (v:=?_) (a':=?_) #[true,true,true,true,true,true,true,true,true,true,true,true,true,false,false,false,false,false,false,false,false,false,false,false,false,false,false,false,false,false,false] rfl rfl (any_of HT_.out (by kernel_rfl)) (fun _ _ _ h=>h) (Or.inl ⟨by rfl,?_⟩) ?_ ?_
            rotate_left
            ·
             intro w'
             go_simp
             with_reducible rfl
            rotate_left
            ·
             simp only [Act.put,la_,l0_,l1_,i64_w,i32_w]
             rfl
            refine pure_ (i:=13) (N:=some 51) (v:=?_) (a':=?_) #[true,true,true,true,true,true,true,true,true,true,true,true,true,true,false,false,false,false,false,false,false,false,false,false,false,false,false,false,false,false,false] rfl rfl (any_of HT_.out (by kernel_rfl)) (fun _ _ _ h=>h) (Or.inl ⟨by rfl,?_⟩) ?_ ?_
            rotate_left
            ·
             intro w'
             go_simp
             with_reducible rfl
            rotate_left
            ·
             simp only [Act.put,la_,l0_,l1_,i64_w,i32_w]
             rfl
            refine pure_ (i:=14) (N:=some 52) (v:=?_) (a':=?_) #[true,true,true,true,true,true,true,true,true,true,true,true,true,true,true,false,false,false,false,false,false,false,false,false,false,false,false,false,false,false,false] rfl rfl (any_of HT_.out (by kernel_rfl)) (fun _ _ _ h=>h) (Or.inl ⟨by rfl,?_⟩) ?_ ?_
            rotate_left
            ·
             intro w'
             go_simp
             with_reducible rfl
            rotate_left
            ·
             simp only [Act.put,la_,l0_,l1_,i64_w,i32_w]
             rfl
            refine pure_ (i:=15) (N:=some 53) (v:=undef) (a':=?_) #[true,true,true,true,true,true,true,true,true,true,true,true,true,true,true,true,false,false,false,false,false,false,false,false,false,false,false,false,false,false,false] rfl rfl (any_of HT_.out (by kernel_rfl)) (fun _ _ _ h=>h) (Or.inr ⟨by rfl,rfl⟩) ?_ ?_
            rotate_left
            ·
             simp only [Act.put,la_,l0_,l1_,i64_w,i32_w]
             rfl
            refine pure_ (i:=16) (N:=some 54) (v:=undef) (a':=?_) #[true,true,true,true,true,true,true,true,true,true,true,true,true,true,true,true,true,false,false,false,false,false,false,false,false,false,false,false,false,false,false] rfl rfl (any_of HT_.out (by kernel_rfl)) (fun _ _ _ h=>h) (Or.inr ⟨by rfl,rfl⟩) ?_ ?_
            rotate_left
            ·
             simp only [Act.put,la_,l0_,l1_,i64_w,i32_w]
             rfl
            refine pure_ (i:=17) (N:=some 55) (v:=undef) (a':=?_) #[true,true,true,true,true,true,true,true,true,true,true,true,true,true,true,true,true,true,false,false,false,false,false,false,false,false,false,false,false,false,false] rfl rfl (any_of HT_.out (by kernel_rfl)) (fun _ _ _ h=>h) (Or.inr ⟨by rfl,rfl⟩) ?_ ?_
            rotate_left
            ·
             simp only [Act.put,la_,l0_,l1_,i64_w,i32_w]
             rfl
            refine pure_ (i:=18) (N:=some 56) (v:=undef) (a':=?_) #[true,true,true,true,true,true,true,true,true,true,true,true,true,true,true,true,true,true,true,false,false,false,false,false,false,false,false,false,false,false,false] rfl rfl (any_of HT_.out (by kernel_rfl)) (fun _ _ _ h=>h) (Or.inr ⟨by rfl,rfl⟩) ?_ ?_
            rotate_left
            ·
             simp only [Act.put,la_,l0_,l1_,i64_w,i32_w]
             rfl
            refine pure_ (i:=19) (N:=some 57) (v:=undef) (a':=?_) #[true,true,true,true,true,true,true,true,true,true,true,true,true,true,true,true,true,true,true,true,false,false,false,false,false,false,false,false,false,false,false] rfl rfl (any_of HT_.out (by kernel_rfl)) (fun _ _ _ h=>h) (Or.inr ⟨by rfl,rfl⟩) ?_ ?_
            rotate_left
            ·
             simp only [Act.put,la_,l0_,l1_,i64_w,i32_w]
             rfl
            refine pure_ (i:=20) (N:=some 58) (v:=undef) (a':=?_) #[true,true,true,true,true,true,true,true,true,true,true,true,true,true,true,true,true,true,true,true,true,false,false,false,false,false,false,false,false,false,false] rfl rfl (any_of HT_.out (by kernel_rfl)) (fun _ _ _ h=>h) (Or.inr ⟨by rfl,rfl⟩) ?_ ?_
            rotate_left
            ·
             simp only [Act.put,la_,l0_,l1_,i64_w,i32_w]
             rfl
            refine pure_ (i:=21) (N:=some 59) (v:=undef) (a':=?_) #[true,true,true,true,true,true,true,true,true,true,true,true,true,true,true,true,true,true,true,true,true,true,false,false,false,false,false,false,false,false,false] rfl rfl (any_of HT_.out (by kernel_rfl)) (fun _ _ _ h=>h) (Or.inr ⟨by rfl,rfl⟩) ?_ ?_
            rotate_left
            ·
             simp only [Act.put,la_,l0_,l1_,i64_w,i32_w]
             rfl
            refine pure_ (i:=22) (N:=some 60) (v:=undef) (a':=?_) #[true,true,true,true,true,true,true,true,true,true,true,true,true,true,true,true,true,true,true,true,true,true,true,false,false,false,false,false,false,false,false] rfl rfl (any_of HT_.out (by kernel_rfl)) (fun _ _ _ h=>h) (Or.inr ⟨by rfl,rfl⟩) ?_ ?_
            rotate_left
            ·
             simp only [Act.put,la_,l0_,l1_,i64_w,i32_w]
             rfl
            refine pure_ (i:=23) (N:=some 61) (v:=undef) (a':=?_) #[true,true,true,true,true,true,true,true,true,true,true,true,true,true,true,true,true,true,true,true,true,true,true,true,false,false,false,false,false,false,false] rfl rfl (any_of HT_.out (by kernel_rfl)) (fun _ _ _ h=>h) (Or.inr ⟨by rfl,rfl⟩) ?_ ?_
            rotate_left
            ·
             simp only [Act.put,la_,l0_,l1_,i64_w,i32_w]
             rfl
            refine pure_ (i:=24) (N:=some 62) (v:=undef) (a':=?_) #[true,true,true,true,true,true,true,true,true,true,true,true,true,true,true,true,true,true,true,true,true,true,true,true,true,false,false,false,false,false,false] rfl rfl (any_of HT_.out (by kernel_rfl)) (fun _ _ _ h=>h) (Or.inr ⟨by rfl,rfl⟩) ?_ ?_
            rotate_left
            ·
             simp only [Act.put,la_,l0_,l1_,i64_w,i32_w]
             rfl
            refine pure_ (i:=25) (N:=some 63) (v:=undef) (a':=?_) #[true,true,true,true,true,true,true,true,true,true,true,true,true,true,true,true,true,true,true,true,true,true,true,true,true,true,false,false,false,false,false] rfl rfl (any_of HT_.out (by kernel_rfl)) (fun _ _ _ h=>h) (Or.inr ⟨by rfl,rfl⟩) ?_ ?_
            rotate_left
            ·
             simp only [Act.put,la_,l0_,l1_,i64_w,i32_w]
             rfl
            refine pure_ (i:=26) (N:=some 64) (v:=undef) (a':=?_) #[true,true,true,true,true,true,true,true,true,true,true,true,true,true,true,true,true,true,true,true,true,true,true,true,true,true,true,false,false,false,false] rfl rfl (any_of HT_.out (by kernel_rfl)) (fun _ _ _ h=>h) (Or.inr ⟨by rfl,rfl⟩) ?_ ?_
            rotate_left
            ·
             simp only [Act.put,la_,l0_,l1_,i64_w,i32_w]
             rfl
            refine pure_ (i:=27) (N:=some 65) (v:=undef) (a':=?_) #[true,true,true,true,true,true,true,true,true,true,true,true,true,true,true,true,true,true,true,true,true,true,true,true,true,true,true,true,false,false,false] rfl rfl (any_of HT_.out (by kernel_rfl)) (fun _ _ _ h=>h) (Or.inr ⟨by rfl,rfl⟩) ?_ ?_
            rotate_left
            ·
             simp only [Act.put,la_,l0_,l1_,i64_w,i32_w]
             rfl
            refine pure_ (i:=28) (N:=some 66) (v:=undef) (a':=?_) #[true,true,true,true,true,true,true,true,true,true,true,true,true,true,true,true,true,true,true,true,true,true,true,true,true,true,true,true,true,false,false] rfl rfl (any_of HT_.out (by kernel_rfl)) (fun _ _ _ h=>h) (Or.inr ⟨by rfl,rfl⟩) ?_ ?_
            rotate_left
            ·
             simp only [Act.put,la_,l0_,l1_,i64_w,i32_w]
             rfl
            refine pure_ (i:=29) (N:=some 67) (v:=?_) (a':=?_) #[true,true,true,true,true,true,true,true,true,true,true,true,true,true,true,true,true,true,true,true,true,true,true,true,true,true,true,true,true,true,false] rfl rfl (any_of HT_.out (by kernel_rfl)) (fun _ _ _ h=>h) (Or.inl ⟨by rfl,?_⟩) ?_ ?_
            rotate_left
            ·
             intro w'
             go_simp
             with_reducible rfl
            rotate_left
            ·
             simp only [Act.put,la_,l0_,l1_,i64_w,i32_w]
             rfl
            refine pure_ (i:=30) (N:=some 68) (v:=?_) (a':=?_) #[true,true,true,true,true,true,true,true,true,true,true,true,true,true,true,true,true,true,true,true,true,true,true,true,true,true,true,true,true,true,true] rfl rfl (any_of HT_.out (by kernel_rfl)) (fun _ _ _ h=>h) (Or.inl ⟨by rfl,?_⟩) ?_ ?_
            rotate_left
            ·
             intro w'
             go_simp
             with_reducible rfl
            rotate_left
            ·
             simp only [Act.put,la_,l0_,l1_,i64_w,i32_w]
             rfl
            refine done_ (done_of HT_.out (by kernel_rfl)) ?_
            try go_wp2
            go_meet
            case rel=>exact ⟨_,(true),(by first|rfl|(simp;done)|(simp [*];done)),H',⟨by have:=HK1.out;have:=HK2.out;first|omega|exact Nat.le_refl _⟩,⟨by (with_reducible repeat (first|apply ra_|apply rn_|apply rd_));exact HO_4.out⟩,⟨by (with_reducible repeat (first|refine kn_ ?_ _|refine kd_ ?_|refine ka_ ?_ _));exact BK284.out⟩,⟨by (with_reducible repeat (first|refine kn_ ?_ _|refine kd_ ?_|refine ka_ ?_ _));exact BK288.out⟩,⟨by repeat (first|(with_reducible first|exact HB.out|apply ba_|apply bn_|apply bd_|refine below_set ?_ GE284.out|refine below_set ?_ GE288.out)|exact HB.out)⟩⟩
           rw [if_neg c25] at H
           have c25b0 : decide (t290 < 0) = false:=decide_eq_false c25
           clear c25
           by_cases c27 : t290 = 0
           ·
            rw [if_pos c27] at H
            have c27b0 : (t290 == 0) = true:=beq_iff_eq.mpr c27
            have c27b1 : (t290 != 0) = false:=bne_eq_false_iff_eq.mpr c27
            clear c27
            replace H:=Option.bind_eq_some_iff.mp H
            obtain ⟨t293,A280,H⟩:=H
            replace H : ((garmentref14_distance.f x285000_1 x285001_1 x289000_2 x289001_2).bind fun t294=>(garmentref14_wrap.j2 k2 l0 x4_1 x5_1 x7_2 (decide (t293 > t294)) x285000_1 x285001_1 x289000_2 x289001_2)) = some r:=H
            have A28:=Aside0.mk A280
            clear A280
            replace H:=Option.bind_eq_some_iff.mp H
            obtain ⟨t294,A290,H⟩:=H
            replace H : (garmentref14_wrap.j2 k2 l0 x4_1 x5_1 x7_2 (decide (t293 > t294)) x285000_1 x285001_1 x289000_2 x289001_2) = some r:=H
            have A29:=Aside0.mk A290
            clear A290
            have H':=Aside0.mk H
            clear H
            try go_wp2
            have n0_:=Aside0.mk (rd_ HO_4.out)
            have n1_:=Aside0.mk (kd_ BK284.out)
            have n2_:=Aside0.mk (kd_ BK288.out)
            have n3_:=Aside0.mk (bd_ HB.out)
            clear HO_4
            clear BK284
            clear BK288
            clear HB
            have HO_4:=n0_
            have BK284:=n1_
            have BK288:=n2_
            have HB:=n3_
            clear n0_ n1_ n2_ n3_
            have p291 : 0 ≤ (x7_2 : Int):=of_decide_eq_true (by first|(with_reducible assumption)|assumption)
            have q291 : x7_2 < (l0.length : Int):=of_decide_eq_true (by first|(with_reducible assumption)|assumption)
            obtain ⟨ad291,e291,hx291_0,hx291_1⟩:=at_T30 HR0.out x7_2 p291 q291
            have hw291_1:=hx291_1
            have hw291_0:=hx291_0
            obtain rfl : ad289 = ad291:=(by injection e291)
            replace hx291_0:=(HB.out.cell (bl_ w _ hx291_0)).trans hx291_0
            replace hx291_1:=(HB.out.cell (bl_ w _ hx291_1)).trans hx291_1
            replace p291:=eq_true p291
            replace q291:=eq_true q291
            have p292 : 0 ≤ (x7_2 : Int):=of_decide_eq_true (by first|(with_reducible assumption)|assumption)
            have q292 : x7_2 < (l0.length : Int):=of_decide_eq_true (by first|(with_reducible assumption)|assumption)
            obtain ⟨ad292,e292,hx292_0,hx292_1⟩:=at_T30 HR0.out x7_2 p292 q292
            have hw292_1:=hx292_1
            have hw292_0:=hx292_0
            obtain rfl : ad289 = ad292:=(by injection e292)
            replace hx292_0:=(HB.out.cell (bl_ w _ hx292_0)).trans hx292_0
            replace hx292_1:=(HB.out.cell (bl_ w _ hx292_1)).trans hx292_1
            replace p292:=eq_true p292
            replace q292:=eq_true q292
            refine start_ (n:=31) (S:=fun w'=>w'.cell? ⟨gb284,0,none⟩ = some (.int .i64 x285000_1)∧w'.cell? ⟨gb284,1,none⟩ = some (.int .i64 x285001_1)∧w'.cell? ⟨gb288,0,none⟩ = some (.int .i64 x289000_2)∧w'.cell? ⟨gb288,1,none⟩ = some (.int .i64 x289001_2)∧w'.cell? (ad289.add ((x7_2).toNat * 2)) = some (.int .i64 ((rd_T30 l0 x7_2).f0))∧w'.cell? ⟨(ad289.add ((x7_2).toNat * 2)).block,(ad289.add ((x7_2).toNat * 2)).off + 1,none⟩ = some (.int .i64 ((rd_T30 l0 x7_2).f1))∧w'.cell? (ad289.add ((x7_2).toNat * 2)) = some (.int .i64 ((rd_T30 l0 x7_2).f0))∧w'.cell? ⟨(ad289.add ((x7_2).toNat * 2)).block,(ad289.add ((x7_2).toNat * 2)).off + 1,none⟩ = some (.int .i64 ((rd_T30 l0 x7_2).f1))) (ds:=[]) #[false,false,false,false,false,false,false,false,false,false,false,false,false,false,false,false,false,false,false,false,false,false,false,false,false,false,false,false,false,false,false] (by kernel_rfl) rfl rfl ⟨(blk_cell BK284.out 0).trans rfl,(blk_cell BK284.out 1).trans rfl,(blk_cell BK288.out 0).trans rfl,(blk_cell BK288.out 1).trans rfl,((HB.out.cell (bl_ w _ hw291_0)).trans hw291_0),((HB.out.cell (bl_ w _ hw291_1)).trans hw291_1),((HB.out.cell (bl_ w _ hw292_0)).trans hw292_0),((HB.out.cell (bl_ w _ hw292_1)).trans hw292_1)⟩ (fun hHeld=>?_);refine with_tabW garmentref14_wrap.tab13 garmentref14_wrap.bits13 (fun HT_ HW_=>?_)
            generalize w21.drew = w30 at HO_4 BK284 BK288 HB hx291_0 hx291_1 hx292_0 hx292_1 hHeld ⊢
            refine pure_ (i:=0) (N:=some 38) (v:=?_) (a':=?_) #[true,false,false,false,false,false,false,false,false,false,false,false,false,false,false,false,false,false,false,false,false,false,false,false,false,false,false,false,false,false,false] rfl rfl (any_of HT_.out (by kernel_rfl)) (fun _ _ _ h=>h) (Or.inl ⟨by rfl,?_⟩) ?_ ?_
            rotate_left
            ·
             intro w'
             go_simp
             with_reducible rfl
            rotate_left
            ·
             simp only [Act.put,la_,l0_,l1_,i64_w,i32_w]
             rfl
            refine pure_ (i:=1) (N:=some 39) (v:=?_) (a':=?_) #[true,true,false,false,false,false,false,false,false,false,false,false,false,false,false,false,false,false,false,false,false,false,false,false,false,false,false,false,false,false,false] rfl rfl (any_of HT_.out (by kernel_rfl)) (fun _ _ _ h=>h) (Or.inl ⟨by rfl,?_⟩) ?_ ?_
            rotate_left
            ·
             intro w'
             go_simp
             with_reducible rfl
            rotate_left
            ·
             simp only [Act.put,la_,l0_,l1_,i64_w,i32_w]
             rfl
            refine pure_ (i:=2) (N:=some 40) (v:=?_) (a':=?_) #[true,true,true,false,false,false,false,false,false,false,false,false,false,false,false,false,false,false,false,false,false,false,false,false,false,false,false,false,false,false,false] rfl rfl (any_of HT_.out (by kernel_rfl)) (fun _ _ _ h=>h) (Or.inl ⟨by rfl,?_⟩) ?_ ?_
            rotate_left
            ·
             intro w'
             go_simp
             with_reducible rfl
            rotate_left
            ·
             simp only [Act.put,la_,l0_,l1_,i64_w,i32_w]
             rfl
            refine take_ (i:=3) (N:=some 41) (v:=?_) (a':=?_) #[true,true,true,true,false,false,false,false,false,false,false,false,false,false,false,false,false,false,false,false,false,false,false,false,false,false,false,false,false,false,false] rfl rfl (take_ofW HT_.out HW_.out (by kernel_rfl)) (fun _ _ _ h=>h) (Or.inl ⟨by rfl,?_⟩) hHeld ?_ ?_
            rotate_left
            ·
             rintro w' ⟨s0,s1,s2,s3,s4,s5,s6,s7⟩
             go_simp
             with_reducible rfl
            rotate_left
            ·
             simp only [Act.put,la_,l0_,l1_,i64_w,i32_w]
             rfl
            refine take_ (i:=4) (N:=some 42) (v:=?_) (a':=?_) #[true,true,true,true,true,false,false,false,false,false,false,false,false,false,false,false,false,false,false,false,false,false,false,false,false,false,false,false,false,false,false] rfl rfl (take_ofW HT_.out HW_.out (by kernel_rfl)) (fun _ _ _ h=>h) (Or.inl ⟨by rfl,?_⟩) hHeld ?_ ?_
            rotate_left
            ·
             rintro w' ⟨s0,s1,s2,s3,s4,s5,s6,s7⟩
             go_simp
             with_reducible rfl
            rotate_left
            ·
             simp only [Act.put,la_,l0_,l1_,i64_w,i32_w]
             rfl
            refine pure_ (i:=5) (N:=some 43) (v:=?_) (a':=?_) #[true,true,true,true,true,true,false,false,false,false,false,false,false,false,false,false,false,false,false,false,false,false,false,false,false,false,false,false,false,false,false] rfl rfl (any_of HT_.out (by kernel_rfl)) (fun _ _ _ h=>h) (Or.inl ⟨by rfl,?_⟩) ?_ ?_
            rotate_left
            ·
             intro w'
             go_simp
             with_reducible rfl
            rotate_left
            ·
             simp only [Act.put,la_,l0_,l1_,i64_w,i32_w]
             rfl
            refine pure_ (i:=6) (N:=some 44) (v:=?_) (a':=?_) #[true,true,true,true,true,true,true,false,false,false,false,false,false,false,false,false,false,false,false,false,false,false,false,false,false,false,false,false,false,false,false] rfl rfl (any_of HT_.out (by kernel_rfl)) (fun _ _ _ h=>h) (Or.inl ⟨by rfl,?_⟩) ?_ ?_
            rotate_left
            ·
             intro w'
             go_simp
             with_reducible rfl
            rotate_left
            ·
             simp only [Act.put,la_,l0_,l1_,i64_w,i32_w]
             rfl
            refine take_ (i:=7) (N:=some 45) (v:=?_) (a':=?_) #[true,true,true,true,true,true,true,true,false,false,false,false,false,false,false,false,false,false,false,false,false,false,false,false,false,false,false,false,false,false,false] rfl rfl (take_ofW HT_.out HW_.out (by kernel_rfl)) (fun _ _ _ h=>h) (Or.inl ⟨by rfl,?_⟩) hHeld ?_ ?_
            rotate_left
            ·
             rintro w' ⟨s0,s1,s2,s3,s4,s5,s6,s7⟩
             go_simp
             with_reducible rfl
            rotate_left
            ·
             simp only [Act.put,la_,l0_,l1_,i64_w,i32_w]
             rfl
            refine take_ (i:=8) (N:=some 46) (v:=?_) (a':=?_) #[true,true,true,true,true,true,true,true,true,false,false,false,false,false,false,false,false,false,false,false,false,false,false,false,false,false,false,false,false,false,false] rfl rfl (take_ofW HT_.out HW_.out (by kernel_rfl)) (fun _ _ _ h=>h) (Or.inl ⟨by rfl,?_⟩) hHeld ?_ ?_
            rotate_left
            ·
             rintro w' ⟨s0,s1,s2,s3,s4,s5,s6,s7⟩
             go_simp
             with_reducible rfl
            rotate_left
            ·
             simp only [Act.put,la_,l0_,l1_,i64_w,i32_w]
             rfl
            refine pure_ (i:=9) (N:=some 47) (v:=?_) (a':=?_) #[true,true,true,true,true,true,true,true,true,true,false,false,false,false,false,false,false,false,false,false,false,false,false,false,false,false,false,false,false,false,false] rfl rfl (any_of HT_.out (by kernel_rfl)) (fun _ _ _ h=>h) (Or.inl ⟨by rfl,?_⟩) ?_ ?_
            rotate_left
            ·
             intro w'
             go_simp
             with_reducible rfl
            rotate_left
            ·
             simp only [Act.put,la_,l0_,l1_,i64_w,i32_w]
             rfl
            refine pure_ (i:=10) (N:=some 48) (v:=?_) (a':=?_) #[true,true,true,true,true,true,true,true,true,true,true,false,false,false,false,false,false,false,false,false,false,false,false,false,false,false,false,false,false,false,false] rfl rfl (any_of HT_.out (by kernel_rfl)) (fun _ _ _ h=>h) (Or.inl ⟨by rfl,?_⟩) ?_ ?_
            rotate_left
            ·
             intro w'
             go_simp
             with_reducible rfl
            rotate_left
            ·
             simp only [Act.put,la_,l0_,l1_,i64_w,i32_w]
             rfl
            refine pure_ (i:=11) (N:=some 49) (v:=?_) (a':=?_) #[true,true,true,true,true,true,true,true,true,true,true,true,false,false,false,false,false,false,false,false,false,false,false,false,false,false,false,false,false,false,false] rfl rfl (any_of HT_.out (by kernel_rfl)) (fun _ _ _ h=>h) (Or.inl ⟨by rfl,?_⟩) ?_ ?_
            rotate_left
            ·
             intro w'
             go_simp
             with_reducible rfl
            rotate_left
            ·
             simp only [Act.put,la_,l0_,l1_,i64_w,i32_w]
             rfl
            refine pure_ (i:=12) (N:=some 50) (v:=?_) (a':=?_) #[true,true,true,true,true,true,true,true,true,true,true,true,true,false,false,false,false,false,false,false,false,false,false,false,false,false,false,false,false,false,false] rfl rfl (any_of HT_.out (by kernel_rfl)) (fun _ _ _ h=>h) (Or.inl ⟨by rfl,?_⟩) ?_ ?_
            rotate_left
            ·
             intro w'
             go_simp
             with_reducible rfl
            rotate_left
            ·
             simp only [Act.put,la_,l0_,l1_,i64_w,i32_w]
             rfl
            refine pure_ (i:=13) (N:=some 51) (v:=?_) (a':=?_) #[true,true,true,true,true,true,true,true,true,true,true,true,true,true,false,false,false,false,false,false,false,false,false,false,false,false,false,false,false,false,false] rfl rfl (any_of HT_.out (by kernel_rfl)) (fun _ _ _ h=>h) (Or.inl ⟨by rfl,?_⟩) ?_ ?_
            rotate_left
            ·
             intro w'
             go_simp
             with_reducible rfl
            rotate_left
            ·
             simp only [Act.put,la_,l0_,l1_,i64_w,i32_w]
             rfl
            refine pure_ (i:=14) (N:=some 52) (v:=?_) (a':=?_) #[true,true,true,true,true,true,true,true,true,true,true,true,true,true,true,false,false,false,false,false,false,false,false,false,false,false,false,false,false,false,false] rfl rfl (any_of HT_.out (by kernel_rfl)) (fun _ _ _ h=>h) (Or.inl ⟨by rfl,?_⟩) ?_ ?_
            rotate_left
            ·
             intro w'
             go_simp
             with_reducible rfl
            rotate_left
            ·
             simp only [Act.put,la_,l0_,l1_,i64_w,i32_w]
             rfl
            refine pure_ (i:=15) (N:=some 53) (v:=?_) (a':=?_) #[true,true,true,true,true,true,true,true,true,true,true,true,true,true,true,true,false,false,false,false,false,false,false,false,false,false,false,false,false,false,false] rfl rfl (any_of HT_.out (by kernel_rfl)) (fun _ _ _ h=>h) (Or.inl ⟨by rfl,?_⟩) ?_ ?_
            rotate_left
            ·
             intro w'
             go_simp
             with_reducible rfl
            rotate_left
            ·
             simp only [Act.put,la_,l0_,l1_,i64_w,i32_w]
             rfl
            refine pure_ (i:=16) (N:=some 54) (v:=?_) (a':=?_) #[true,true,true,true,true,true,true,true,true,true,true,true,true,true,true,true,true,false,false,false,false,false,false,false,false,false,false,false,false,false,false] rfl rfl (any_of HT_.out (by kernel_rfl)) (fun _ _ _ h=>h) (Or.inl ⟨by rfl,?_⟩) ?_ ?_
            rotate_left
            ·
             intro w'
             go_simp
             with_reducible rfl
            rotate_left
            ·
             simp only [Act.put,la_,l0_,l1_,i64_w,i32_w]
             rfl
            refine pure_ (i:=17) (N:=some 55) (v:=?_) (a':=?_) #[true,true,true,true,true,true,true,true,true,true,true,true,true,true,true,true,true,true,false,false,false,false,false,false,false,false,false,false,false,false,false] rfl rfl (any_of HT_.out (by kernel_rfl)) (fun _ _ _ h=>h) (Or.inl ⟨by rfl,?_⟩) ?_ ?_
            rotate_left
            ·
             intro w'
             go_simp
             with_reducible rfl
            rotate_left
            ·
             simp only [Act.put,la_,l0_,l1_,i64_w,i32_w]
             rfl
            refine pure_ (i:=19) (N:=some 57) (v:=?_) (a':=?_) #[true,true,true,true,true,true,true,true,true,true,true,true,true,true,true,true,true,true,false,true,false,false,false,false,false,false,false,false,false,false,false] rfl rfl (any_of HT_.out (by kernel_rfl)) (fun _ _ _ h=>h) (Or.inl ⟨by rfl,?_⟩) ?_ ?_
            rotate_left
            ·
             intro w'
             go_simp
             with_reducible rfl
            rotate_left
            ·
             simp only [Act.put,la_,l0_,l1_,i64_w,i32_w]
             rfl
            refine pure_ (i:=20) (N:=some 58) (v:=?_) (a':=?_) #[true,true,true,true,true,true,true,true,true,true,true,true,true,true,true,true,true,true,false,true,true,false,false,false,false,false,false,false,false,false,false] rfl rfl (any_of HT_.out (by kernel_rfl)) (fun _ _ _ h=>h) (Or.inl ⟨by rfl,?_⟩) ?_ ?_
            rotate_left
            ·
             intro w'
             go_simp
             with_reducible rfl
            rotate_left
            ·
             simp only [Act.put,la_,l0_,l1_,i64_w,i32_w]
             rfl
            refine pure_ (i:=21) (N:=some 59) (v:=?_) (a':=?_) #[true,true,true,true,true,true,true,true,true,true,true,true,true,true,true,true,true,true,false,true,true,true,false,false,false,false,false,false,false,false,false] rfl rfl (any_of HT_.out (by kernel_rfl)) (fun _ _ _ h=>h) (Or.inl ⟨by rfl,?_⟩) ?_ ?_
            rotate_left
            ·
             intro w'
             go_simp
             with_reducible rfl
            rotate_left
            ·
             simp only [Act.put,la_,l0_,l1_,i64_w,i32_w]
             rfl
            refine take_ (i:=18) (N:=some 56) (v:=?_) (a':=?_) #[true,true,true,true,true,true,true,true,true,true,true,true,true,true,true,true,true,true,true,true,true,true,false,false,false,false,false,false,false,false,false] rfl rfl (take_ofW HT_.out HW_.out (by kernel_rfl)) (fun _ _ _ h=>h) (Or.inl ⟨by rfl,?_⟩) hHeld ?_ ?_
            rotate_left
            ·
             rintro w' ⟨s0,s1,s2,s3,s4,s5,s6,s7⟩
             go_simp
             with_reducible rfl
            rotate_left
            ·
             simp only [Act.put,la_,l0_,l1_,i64_w,i32_w]
             rfl
            refine take_ (i:=22) (N:=some 60) (v:=?_) (a':=?_) #[true,true,true,true,true,true,true,true,true,true,true,true,true,true,true,true,true,true,true,true,true,true,true,false,false,false,false,false,false,false,false] rfl rfl (take_ofW HT_.out HW_.out (by kernel_rfl)) (fun _ _ _ h=>h) (Or.inl ⟨by rfl,?_⟩) hHeld ?_ ?_
            rotate_left
            ·
             rintro w' ⟨s0,s1,s2,s3,s4,s5,s6,s7⟩
             go_simp
             with_reducible rfl
            rotate_left
            ·
             simp only [Act.put,la_,l0_,l1_,i64_w,i32_w]
             rfl
            refine take_ (i:=24) (N:=some 62) (v:=?_) (a':=?_) #[true,true,true,true,true,true,true,true,true,true,true,true,true,true,true,true,true,true,true,true,true,true,true,false,true,false,false,false,false,false,false] rfl rfl (take_ofW HT_.out HW_.out (by kernel_rfl)) (fun _ _ _ h=>h) (Or.inl ⟨by rfl,?_⟩) hHeld ?_ ?_
            rotate_left
            ·
             rintro w' ⟨s0,s1,s2,s3,s4,s5,s6,s7⟩
             go_simp
             with_reducible rfl
            rotate_left
            ·
             simp only [Act.put,la_,l0_,l1_,i64_w,i32_w]
             rfl
            refine take_ (i:=25) (N:=some 63) (v:=?_) (a':=?_) #[true,true,true,true,true,true,true,true,true,true,true,true,true,true,true,true,true,true,true,true,true,true,true,false,true,true,false,false,false,false,false] rfl rfl (take_ofW HT_.out HW_.out (by kernel_rfl)) (fun _ _ _ h=>h) (Or.inl ⟨by rfl,?_⟩) hHeld ?_ ?_
            rotate_left
            ·
             rintro w' ⟨s0,s1,s2,s3,s4,s5,s6,s7⟩
             go_simp
             with_reducible rfl
            rotate_left
            ·
             simp only [Act.put,la_,l0_,l1_,i64_w,i32_w]
             rfl
            refine one_ (i:=23) (N:=some 61) #[true,true,true,true,true,true,true,true,true,true,true,true,true,true,true,true,true,true,true,true,true,true,true,true,true,true,false,false,false,false,false] rfl rfl (one_of HT_.out (by kernel_rfl)) (by decide) (fun K hK=>?_)
            refine goes_ Try.func44 (by kernel_rfl) rfl #[.agg #[.int .i64 x285000_1,.int .i64 x285001_1],.agg #[.int .i64 ((rd_T30 l0 x7_2).f0),.int .i64 ((rd_T30 l0 x7_2).f1)]] (by rfl) rfl rfl (by (try simp only [List.map_toArray,List.map_cons,List.map_nil]);first|done|rfl|(simp only [List.length_drop,List.length_take];rfl)) ?_
            with_reducible refine (garmentref14_distance.calls x285000_1 x285001_1 ((rd_T30 l0 x7_2).f0) ((rd_T30 l0 x7_2).f1) t293 _ A28.out).mono ?_
            rintro e w31 ⟨rfl,hb⟩
            refine ⟨_,rfl,?_⟩
            have n0_:=Aside0.mk (Kd.R_below (by (with_reducible repeat (first|apply ra_|apply rn_|apply rd_));exact HO_4.out) hb)
            have n1_:=Aside0.mk (blk_below (g:=gb284) (o:=.cells #[.int .i64 x285000_1,.int .i64 x285001_1] 30 (0,0)) (by (with_reducible repeat (first|refine kn_ ?_ _|refine kd_ ?_|refine ka_ ?_ _));exact BK284.out) hb)
            have n2_:=Aside0.mk (blk_below (g:=gb288) (o:=.cells #[.int .i64 x289000_2,.int .i64 x289001_2] 30 (0,0)) (by (with_reducible repeat (first|refine kn_ ?_ _|refine kd_ ?_|refine ka_ ?_ _));exact BK288.out) hb)
            have n3_:=Aside0.mk (below_step (by repeat (first|(with_reducible first|exact HB.out|apply ba_|apply bn_|apply bd_|refine below_set ?_ GE284.out|refine below_set ?_ GE288.out)|exact HB.out)) hb)
            clear HO_4
            clear BK284
            clear BK288
            clear HB
            have HO_4:=n0_
            have BK284:=n1_
            have BK288:=n2_
            have HB:=n3_
            clear n0_ n1_ n2_ n3_
            (try clear hb)
            (try clear hb2)
            (try clear hk)
            (try clear hi)
            refine hK.out _ _ ⟨(blk_cell BK284.out 0).trans rfl,(blk_cell BK284.out 1).trans rfl,(blk_cell BK288.out 0).trans rfl,(blk_cell BK288.out 1).trans rfl,((HB.out.cell (bl_ w _ hw291_0)).trans hw291_0),((HB.out.cell (bl_ w _ hw291_1)).trans hw291_1),((HB.out.cell (bl_ w _ hw292_0)).trans hw292_0),((HB.out.cell (bl_ w _ hw292_1)).trans hw292_1)⟩ (fun hHeld=>?_)
            clear hK K
            refine norm_ (a':=?_) ?_ ?_
            rotate_left
            ·
             show Act.put _ (some 61) _ = _
             simp only [Act.put,la_,l0_,l1_,i64_w,i32_w]
             rfl
            refine one_ (i:=26) (N:=some 64) #[true,true,true,true,true,true,true,true,true,true,true,true,true,true,true,true,true,true,true,true,true,true,true,true,true,true,true,false,false,false,false] rfl rfl (one_of HT_.out (by kernel_rfl)) (by decide) (fun K hK=>?_)
            refine goes_ Try.func44 (by kernel_rfl) rfl #[.agg #[.int .i64 x285000_1,.int .i64 x285001_1],.agg #[.int .i64 x289000_2,.int .i64 x289001_2]] (by rfl) rfl rfl (by (try simp only [List.map_toArray,List.map_cons,List.map_nil]);first|done|rfl|(simp only [List.length_drop,List.length_take];rfl)) ?_
            with_reducible refine (garmentref14_distance.calls x285000_1 x285001_1 x289000_2 x289001_2 t294 _ A29.out).mono ?_
            rintro e w32 ⟨rfl,hb⟩
            refine ⟨_,rfl,?_⟩
            have n0_:=Aside0.mk (Kd.R_below (by (with_reducible repeat (first|apply ra_|apply rn_|apply rd_));exact HO_4.out) hb)
            have n1_:=Aside0.mk (blk_below (g:=gb284) (o:=.cells #[.int .i64 x285000_1,.int .i64 x285001_1] 30 (0,0)) (by (with_reducible repeat (first|refine kn_ ?_ _|refine kd_ ?_|refine ka_ ?_ _));exact BK284.out) hb)
            have n2_:=Aside0.mk (blk_below (g:=gb288) (o:=.cells #[.int .i64 x289000_2,.int .i64 x289001_2] 30 (0,0)) (by (with_reducible repeat (first|refine kn_ ?_ _|refine kd_ ?_|refine ka_ ?_ _));exact BK288.out) hb)
            have n3_:=Aside0.mk (below_step (by repeat (first|(with_reducible first|exact HB.out|apply ba_|apply bn_|apply bd_|refine below_set ?_ GE284.out|refine below_set ?_ GE288.out)|exact HB.out)) hb)
            clear HO_4
            clear BK284
            clear BK288
            clear HB
            have HO_4:=n0_
            have BK284:=n1_
            have BK288:=n2_
            have HB:=n3_
            clear n0_ n1_ n2_ n3_
            (try clear hb)
            (try clear hb2)
            (try clear hk)
            (try clear hi)
            refine hK.out _ _ ⟨(blk_cell BK284.out 0).trans rfl,(blk_cell BK284.out 1).trans rfl,(blk_cell BK288.out 0).trans rfl,(blk_cell BK288.out 1).trans rfl,((HB.out.cell (bl_ w _ hw291_0)).trans hw291_0),((HB.out.cell (bl_ w _ hw291_1)).trans hw291_1),((HB.out.cell (bl_ w _ hw292_0)).trans hw292_0),((HB.out.cell (bl_ w _ hw292_1)).trans hw292_1)⟩ (fun hHeld=>?_)
            clear hK K
            refine norm_ (a':=?_) ?_ ?_
            rotate_left
            ·
             show Act.put _ (some 64) _ = _
             simp only [Act.put,la_,l0_,l1_,i64_w,i32_w]
             rfl
            refine pure_ (i:=27) (N:=some 65) (v:=?_) (a':=?_) #[true,true,true,true,true,true,true,true,true,true,true,true,true,true,true,true,true,true,true,true,true,true,true,true,true,true,true,true,false,false,false] rfl rfl (any_of HT_.out (by kernel_rfl)) (fun _ _ _ h=>h) (Or.inl ⟨by rfl,?_⟩) ?_ ?_
            rotate_left
            ·
             intro w'
             go_simp
             with_reducible rfl
            rotate_left
            ·
             simp only [Act.put,la_,l0_,l1_,i64_w,i32_w]
             rfl
            refine pure_ (i:=28) (N:=some 66) (v:=?_) (a':=?_) #[true,true,true,true,true,true,true,true,true,true,true,true,true,true,true,true,true,true,true,true,true,true,true,true,true,true,true,true,true,false,false] rfl rfl (any_of HT_.out (by kernel_rfl)) (fun _ _ _ h=>h) (Or.inl ⟨by rfl,?_⟩) ?_ ?_
            rotate_left
            ·
             intro w'
             go_simp
             with_reducible rfl
            rotate_left
            ·
             simp only [Act.put,la_,l0_,l1_,i64_w,i32_w]
             rfl
            refine pure_ (i:=29) (N:=some 67) (v:=?_) (a':=?_) #[true,true,true,true,true,true,true,true,true,true,true,true,true,true,true,true,true,true,true,true,true,true,true,true,true,true,true,true,true,true,false] rfl rfl (any_of HT_.out (by kernel_rfl)) (fun _ _ _ h=>h) (Or.inl ⟨by rfl,?_⟩) ?_ ?_
            rotate_left
            ·
             intro w'
             go_simp
             with_reducible rfl
            rotate_left
            ·
             simp only [Act.put,la_,l0_,l1_,i64_w,i32_w]
             rfl
            refine pure_ (i:=30) (N:=some 68) (v:=?_) (a':=?_) #[true,true,true,true,true,true,true,true,true,true,true,true,true,true,true,true,true,true,true,true,true,true,true,true,true,true,true,true,true,true,true] rfl rfl (any_of HT_.out (by kernel_rfl)) (fun _ _ _ h=>h) (Or.inl ⟨by rfl,?_⟩) ?_ ?_
            rotate_left
            ·
             intro w'
             go_simp
             with_reducible rfl
            rotate_left
            ·
             simp only [Act.put,la_,l0_,l1_,i64_w,i32_w]
             rfl
            refine done_ (done_of HT_.out (by kernel_rfl)) ?_
            try go_wp2
            go_meet
            case rel=>exact ⟨_,(decide (t293 > t294)),(by first|rfl|(simp;done)|(simp [*];done)),H',⟨by have:=HK1.out;have:=HK2.out;first|omega|exact Nat.le_refl _⟩,⟨by (with_reducible repeat (first|apply ra_|apply rn_|apply rd_));exact HO_4.out⟩,⟨by (with_reducible repeat (first|refine kn_ ?_ _|refine kd_ ?_|refine ka_ ?_ _));exact BK284.out⟩,⟨by (with_reducible repeat (first|refine kn_ ?_ _|refine kd_ ?_|refine ka_ ?_ _));exact BK288.out⟩,⟨by repeat (first|(with_reducible first|exact HB.out|apply ba_|apply bn_|apply bd_|refine below_set ?_ GE284.out|refine below_set ?_ GE288.out)|exact HB.out)⟩⟩
           rw [if_neg c27] at H
           have c27b0 : (t290 == 0) = false:=beq_eq_false_iff_ne.mpr c27
           have c27b1 : (t290 != 0) = true:=bne_iff_ne.mpr c27
           have H':=Aside0.mk H
           clear H
           try go_wp2
           have n0_:=Aside0.mk (rd_ HO_4.out)
           have n1_:=Aside0.mk (kd_ BK284.out)
           have n2_:=Aside0.mk (kd_ BK288.out)
           have n3_:=Aside0.mk (bd_ HB.out)
           clear HO_4
           clear BK284
           clear BK288
           clear HB
           have HO_4:=n0_
           have BK284:=n1_
           have BK288:=n2_
           have HB:=n3_
           clear n0_ n1_ n2_ n3_
           have p291 : 0 ≤ (x7_2 : Int):=of_decide_eq_true (by first|(with_reducible assumption)|assumption)
           have q291 : x7_2 < (l0.length : Int):=of_decide_eq_true (by first|(with_reducible assumption)|assumption)
           obtain ⟨ad291,e291,hx291_0,hx291_1⟩:=at_T30 HR0.out x7_2 p291 q291
           have hw291_1:=hx291_1
           have hw291_0:=hx291_0
           obtain rfl : ad289 = ad291:=(by injection e291)
           replace hx291_0:=(HB.out.cell (bl_ w _ hx291_0)).trans hx291_0
           replace hx291_1:=(HB.out.cell (bl_ w _ hx291_1)).trans hx291_1
           replace p291:=eq_true p291
           replace q291:=eq_true q291
           refine start_ (n:=31) (S:=fun w'=>w'.cell? ⟨gb284,0,none⟩ = some (.int .i64 x285000_1)∧w'.cell? ⟨gb284,1,none⟩ = some (.int .i64 x285001_1)∧w'.cell? ⟨gb288,0,none⟩ = some (.int .i64 x289000_2)∧w'.cell? ⟨gb288,1,none⟩ = some (.int .i64 x289001_2)∧w'.cell? (ad289.add ((x7_2).toNat * 2)) = some (.int .i64 ((rd_T30 l0 x7_2).f0))∧w'.cell? ⟨(ad289.add ((x7_2).toNat * 2)).block,(ad289.add ((x7_2).toNat * 2)).off + 1,none⟩ = some (.int .i64 ((rd_T30 l0 x7_2).f1))) (ds:=[]) #[false,false,false,false,false,false,false,false,false,false,false,false,false,false,false,false,false,false,false,false,false,false,false,false,false,false,false,false,false,false,false] (by kernel_rfl) rfl rfl ⟨(blk_cell BK284.out 0).trans rfl,(blk_cell BK284.out 1).trans rfl,(blk_cell BK288.out 0).trans rfl,(blk_cell BK288.out 1).trans rfl,((HB.out.cell (bl_ w _ hw291_0)).trans hw291_0),((HB.out.cell (bl_ w _ hw291_1)).trans hw291_1)⟩ (fun hHeld=>?_);refine with_tabW garmentref14_wrap.tab13 garmentref14_wrap.bits13 (fun HT_ HW_=>?_)
           generalize w21.drew = w33 at HO_4 BK284 BK288 HB hx291_0 hx291_1 hHeld ⊢
           refine pure_ (i:=0) (N:=some 38) (v:=?_) (a':=?_) #[true,false,false,false,false,false,false,false,false,false,false,false,false,false,false,false,false,false,false,false,false,false,false,false,false,false,false,false,false,false,false] rfl rfl (any_of HT_.out (by kernel_rfl)) (fun _ _ _ h=>h) (Or.inl ⟨by rfl,?_⟩) ?_ ?_
           rotate_left
           ·
            intro w'
            go_simp
            with_reducible rfl
           rotate_left
           ·
            simp only [Act.put,la_,l0_,l1_,i64_w,i32_w]
            rfl
           refine pure_ (i:=1) (N:=some 39) (v:=?_) (a':=?_) #[true,true,false,false,false,false,false,false,false,false,false,false,false,false,false,false,false,false,false,false,false,false,false,false,false,false,false,false,false,false,false] rfl rfl (any_of HT_.out (by kernel_rfl)) (fun _ _ _ h=>h) (Or.inl ⟨by rfl,?_⟩) ?_ ?_
           rotate_left
           ·
            intro w'
            go_simp
            with_reducible rfl
           rotate_left
           ·
            simp only [Act.put,la_,l0_,l1_,i64_w,i32_w]
            rfl
           refine pure_ (i:=2) (N:=some 40) (v:=?_) (a':=?_) #[true,true,true,false,false,false,false,false,false,false,false,false,false,false,false,false,false,false,false,false,false,false,false,false,false,false,false,false,false,false,false] rfl rfl (any_of HT_.out (by kernel_rfl)) (fun _ _ _ h=>h) (Or.inl ⟨by rfl,?_⟩) ?_ ?_
           rotate_left
           ·
            intro w'
            go_simp
            with_reducible rfl
           rotate_left
           ·
            simp only [Act.put,la_,l0_,l1_,i64_w,i32_w]
            rfl
           refine take_ (i:=3) (N:=some 41) (v:=?_) (a':=?_) #[true,true,true,true,false,false,false,false,false,false,false,false,false,false,false,false,false,false,false,false,false,false,false,false,false,false,false,false,false,false,false] rfl rfl (take_ofW HT_.out HW_.out (by kernel_rfl)) (fun _ _ _ h=>h) (Or.inl ⟨by rfl,?_⟩) hHeld ?_ ?_
           rotate_left
           ·
            rintro w' ⟨s0,s1,s2,s3,s4,s5⟩
            go_simp
            with_reducible rfl
           rotate_left
           ·
            simp only [Act.put,la_,l0_,l1_,i64_w,i32_w]
            rfl
           refine take_ (i:=4) (N:=some 42) (v:=?_) (a':=?_) #[true,true,true,true,true,false,false,false,false,false,false,false,false,false,false,false,false,false,false,false,false,false,false,false,false,false,false,false,false,false,false] rfl rfl (take_ofW HT_.out HW_.out (by kernel_rfl)) (fun _ _ _ h=>h) (Or.inl ⟨by rfl,?_⟩) hHeld ?_ ?_
           rotate_left
           ·
            rintro w' ⟨s0,s1,s2,s3,s4,s5⟩
            go_simp
            with_reducible rfl
           rotate_left
           ·
            simp only [Act.put,la_,l0_,l1_,i64_w,i32_w]
            rfl
           refine pure_ (i:=5) (N:=some 43) (v:=?_) (a':=?_) #[true,true,true,true,true,true,false,false,false,false,false,false,false,false,false,false,false,false,false,false,false,false,false,false,false,false,false,false,false,false,false] rfl rfl (any_of HT_.out (by kernel_rfl)) (fun _ _ _ h=>h) (Or.inl ⟨by rfl,?_⟩) ?_ ?_
           rotate_left
           ·
            intro w'
            go_simp
            with_reducible rfl
           rotate_left
           ·
            simp only [Act.put,la_,l0_,l1_,i64_w,i32_w]
            rfl
           refine pure_ (i:=6) (N:=some 44) (v:=?_) (a':=?_) #[true,true,true,true,true,true,true,false,false,false,false,false,false,false,false,false,false,false,false,false,false,false,false,false,false,false,false,false,false,false,false] rfl rfl (any_of HT_.out (by kernel_rfl)) (fun _ _ _ h=>h) (Or.inl ⟨by rfl,?_⟩) ?_ ?_
           rotate_left
           ·
            intro w'
            go_simp
            with_reducible rfl
           rotate_left
           ·
            simp only [Act.put,la_,l0_,l1_,i64_w,i32_w]
            rfl
           refine take_ (i:=7) (N:=some 45) (v:=?_) (a':=?_) #[true,true,true,true,true,true,true,true,false,false,false,false,false,false,false,false,false,false,false,false,false,false,false,false,false,false,false,false,false,false,false] rfl rfl (take_ofW HT_.out HW_.out (by kernel_rfl)) (fun _ _ _ h=>h) (Or.inl ⟨by rfl,?_⟩) hHeld ?_ ?_
           rotate_left
           ·
            rintro w' ⟨s0,s1,s2,s3,s4,s5⟩
            go_simp
            with_reducible rfl
           rotate_left
           ·
            simp only [Act.put,la_,l0_,l1_,i64_w,i32_w]
            rfl
           refine take_ (i:=8) (N:=some 46) (v:=?_) (a':=?_) #[true,true,true,true,true,true,true,true,true,false,false,false,false,false,false,false,false,false,false,false,false,false,false,false,false,false,false,false,false,false,false] rfl rfl (take_ofW HT_.out HW_.out (by kernel_rfl)) (fun _ _ _ h=>h) (Or.inl ⟨by rfl,?_⟩) hHeld ?_ ?_
           rotate_left
           ·
            rintro w' ⟨s0,s1,s2,s3,s4,s5⟩
            go_simp
            with_reducible rfl
           rotate_left
           ·
            simp only [Act.put,la_,l0_,l1_,i64_w,i32_w]
            rfl
           refine pure_ (i:=9) (N:=some 47) (v:=?_) (a':=?_) #[true,true,true,true,true,true,true,true,true,true,false,false,false,false,false,false,false,false,false,false,false,false,false,false,false,false,false,false,false,false,false] rfl rfl (any_of HT_.out (by kernel_rfl)) (fun _ _ _ h=>h) (Or.inl ⟨by rfl,?_⟩) ?_ ?_
           rotate_left
           ·
            intro w'
            go_simp
            with_reducible rfl
           rotate_left
           ·
            simp only [Act.put,la_,l0_,l1_,i64_w,i32_w]
            rfl
           refine pure_ (i:=10) (N:=some 48) (v:=?_) (a':=?_) #[true,true,true,true,true,true,true,true,true,true,true,false,false,false,false,false,false,false,false,false,false,false,false,false,false,false,false,false,false,false,false] rfl rfl (any_of HT_.out (by kernel_rfl)) (fun _ _ _ h=>h) (Or.inl ⟨by rfl,?_⟩) ?_ ?_
           rotate_left
           ·
            intro w'
            go_simp
            with_reducible rfl
           rotate_left
           ·
            simp only [Act.put,la_,l0_,l1_,i64_w,i32_w]
            rfl
           refine pure_ (i:=11) (N:=some 49) (v:=?_) (a':=?_) #[true,true,true,true,true,true,true,true,true,true,true,true,false,false,false,false,false,false,false,false,false,false,false,false,false,false,false,false,false,false,false] rfl rfl (any_of HT_.out (by kernel_rfl)) (fun _ _ _ h=>h) (Or.inl ⟨by rfl,?_⟩) ?_ ?_
           rotate_left
           ·
            intro w'
            go_simp
            with_reducible rfl
           rotate_left
           ·
            simp only [Act.put,la_,l0_,l1_,i64_w,i32_w]
            rfl
           refine pure_ (i:=12) (N:=some 50) (v:=?_) (a':=?_) #[true,true,true,true,true,true,true,true,true,true,true,true,true,false,false,false,false,false,false,false,false,false,false,false,false,false,false,false,false,false,false] rfl rfl (any_of HT_.out (by kernel_rfl)) (fun _ _ _ h=>h) (Or.inl ⟨by rfl,?_⟩) ?_ ?_
           rotate_left
           ·
            intro w'
            go_simp
            with_reducible rfl
           rotate_left
           ·
            simp only [Act.put,la_,l0_,l1_,i64_w,i32_w]
            rfl
           refine pure_ (i:=13) (N:=some 51) (v:=?_) (a':=?_) #[true,true,true,true,true,true,true,true,true,true,true,true,true,true,false,false,false,false,false,false,false,false,false,false,false,false,false,false,false,false,false] rfl rfl (any_of HT_.out (by kernel_rfl)) (fun _ _ _ h=>h) (Or.inl ⟨by rfl,?_⟩) ?_ ?_
           rotate_left
           ·
            intro w'
            go_simp
            with_reducible rfl
           rotate_left
           ·
            simp only [Act.put,la_,l0_,l1_,i64_w,i32_w]
            rfl
           refine pure_ (i:=14) (N:=some 52) (v:=?_) (a':=?_) #[true,true,true,true,true,true,true,true,true,true,true,true,true,true,true,false,false,false,false,false,false,false,false,false,false,false,false,false,false,false,false] rfl rfl (any_of HT_.out (by kernel_rfl)) (fun _ _ _ h=>h) (Or.inl ⟨by rfl,?_⟩) ?_ ?_
           rotate_left
           ·
            intro w'
            go_simp
            with_reducible rfl
           rotate_left
           ·
            simp only [Act.put,la_,l0_,l1_,i64_w,i32_w]
            rfl
           refine pure_ (i:=15) (N:=some 53) (v:=?_) (a':=?_) #[true,true,true,true,true,true,true,true,true,true,true,true,true,true,true,true,false,false,false,false,false,false,false,false,false,false,false,false,false,false,false] rfl rfl (any_of HT_.out (by kernel_rfl)) (fun _ _ _ h=>h) (Or.inl ⟨by rfl,?_⟩) ?_ ?_
           rotate_left
           ·
            intro w'
            go_simp
            with_reducible rfl
           rotate_left
           ·
            simp only [Act.put,la_,l0_,l1_,i64_w,i32_w]
            rfl
           refine pure_ (i:=16) (N:=some 54) (v:=?_) (a':=?_) #[true,true,true,true,true,true,true,true,true,true,true,true,true,true,true,true,true,false,false,false,false,false,false,false,false,false,false,false,false,false,false] rfl rfl (any_of HT_.out (by kernel_rfl)) (fun _ _ _ h=>h) (Or.inl ⟨by rfl,?_⟩) ?_ ?_
           rotate_left
           ·
            intro w'
            go_simp
            with_reducible rfl
           rotate_left
           ·
            simp only [Act.put,la_,l0_,l1_,i64_w,i32_w]
            rfl
           refine pure_ (i:=17) (N:=some 55) (v:=?_) (a':=?_) #[true,true,true,true,true,true,true,true,true,true,true,true,true,true,true,true,true,true,false,false,false,false,false,false,false,false,false,false,false,false,false] rfl rfl (any_of HT_.out (by kernel_rfl)) (fun _ _ _ h=>h) (Or.inl ⟨by rfl,?_⟩) ?_ ?_
           rotate_left
           ·
            intro w'
            go_simp
            with_reducible rfl
           rotate_left
           ·
            simp only [Act.put,la_,l0_,l1_,i64_w,i32_w]
            rfl
           refine pure_ (i:=18) (N:=some 56) (v:=undef) (a':=?_) #[true,true,true,true,true,true,true,true,true,true,true,true,true,true,true,true,true,true,true,false,false,false,false,false,false,false,false,false,false,false,false] rfl rfl (any_of HT_.out (by kernel_rfl)) (fun _ _ _ h=>h) (Or.inr ⟨by rfl,rfl⟩) ?_ ?_
           rotate_left
           ·
            simp only [Act.put,la_,l0_,l1_,i64_w,i32_w]
            rfl
           refine pure_ (i:=19) (N:=some 57) (v:=undef) (a':=?_) #[true,true,true,true,true,true,true,true,true,true,true,true,true,true,true,true,true,true,true,true,false,false,false,false,false,false,false,false,false,false,false] rfl rfl (any_of HT_.out (by kernel_rfl)) (fun _ _ _ h=>h) (Or.inr ⟨by rfl,rfl⟩) ?_ ?_
           rotate_left
           ·
            simp only [Act.put,la_,l0_,l1_,i64_w,i32_w]
            rfl
           refine pure_ (i:=20) (N:=some 58) (v:=undef) (a':=?_) #[true,true,true,true,true,true,true,true,true,true,true,true,true,true,true,true,true,true,true,true,true,false,false,false,false,false,false,false,false,false,false] rfl rfl (any_of HT_.out (by kernel_rfl)) (fun _ _ _ h=>h) (Or.inr ⟨by rfl,rfl⟩) ?_ ?_
           rotate_left
           ·
            simp only [Act.put,la_,l0_,l1_,i64_w,i32_w]
            rfl
           refine pure_ (i:=21) (N:=some 59) (v:=undef) (a':=?_) #[true,true,true,true,true,true,true,true,true,true,true,true,true,true,true,true,true,true,true,true,true,true,false,false,false,false,false,false,false,false,false] rfl rfl (any_of HT_.out (by kernel_rfl)) (fun _ _ _ h=>h) (Or.inr ⟨by rfl,rfl⟩) ?_ ?_
           rotate_left
           ·
            simp only [Act.put,la_,l0_,l1_,i64_w,i32_w]
            rfl
           refine pure_ (i:=22) (N:=some 60) (v:=undef) (a':=?_) #[true,true,true,true,true,true,true,true,true,true,true,true,true,true,true,true,true,true,true,true,true,true,true,false,false,false,false,false,false,false,false] rfl rfl (any_of HT_.out (by kernel_rfl)) (fun _ _ _ h=>h) (Or.inr ⟨by rfl,rfl⟩) ?_ ?_
           rotate_left
           ·
            simp only [Act.put,la_,l0_,l1_,i64_w,i32_w]
            rfl
           refine pure_ (i:=23) (N:=some 61) (v:=undef) (a':=?_) #[true,true,true,true,true,true,true,true,true,true,true,true,true,true,true,true,true,true,true,true,true,true,true,true,false,false,false,false,false,false,false] rfl rfl (any_of HT_.out (by kernel_rfl)) (fun _ _ _ h=>h) (Or.inr ⟨by rfl,rfl⟩) ?_ ?_
           rotate_left
           ·
            simp only [Act.put,la_,l0_,l1_,i64_w,i32_w]
            rfl
           refine pure_ (i:=24) (N:=some 62) (v:=undef) (a':=?_) #[true,true,true,true,true,true,true,true,true,true,true,true,true,true,true,true,true,true,true,true,true,true,true,true,true,false,false,false,false,false,false] rfl rfl (any_of HT_.out (by kernel_rfl)) (fun _ _ _ h=>h) (Or.inr ⟨by rfl,rfl⟩) ?_ ?_
           rotate_left
           ·
            simp only [Act.put,la_,l0_,l1_,i64_w,i32_w]
            rfl
           refine pure_ (i:=25) (N:=some 63) (v:=undef) (a':=?_) #[true,true,true,true,true,true,true,true,true,true,true,true,true,true,true,true,true,true,true,true,true,true,true,true,true,true,false,false,false,false,false] rfl rfl (any_of HT_.out (by kernel_rfl)) (fun _ _ _ h=>h) (Or.inr ⟨by rfl,rfl⟩) ?_ ?_
           rotate_left
           ·
            simp only [Act.put,la_,l0_,l1_,i64_w,i32_w]
            rfl
           refine pure_ (i:=26) (N:=some 64) (v:=undef) (a':=?_) #[true,true,true,true,true,true,true,true,true,true,true,true,true,true,true,true,true,true,true,true,true,true,true,true,true,true,true,false,false,false,false] rfl rfl (any_of HT_.out (by kernel_rfl)) (fun _ _ _ h=>h) (Or.inr ⟨by rfl,rfl⟩) ?_ ?_
           rotate_left
           ·
            simp only [Act.put,la_,l0_,l1_,i64_w,i32_w]
            rfl
           refine pure_ (i:=27) (N:=some 65) (v:=undef) (a':=?_) #[true,true,true,true,true,true,true,true,true,true,true,true,true,true,true,true,true,true,true,true,true,true,true,true,true,true,true,true,false,false,false] rfl rfl (any_of HT_.out (by kernel_rfl)) (fun _ _ _ h=>h) (Or.inr ⟨by rfl,rfl⟩) ?_ ?_
           rotate_left
           ·
            simp only [Act.put,la_,l0_,l1_,i64_w,i32_w]
            rfl
           refine pure_ (i:=28) (N:=some 66) (v:=?_) (a':=?_) #[true,true,true,true,true,true,true,true,true,true,true,true,true,true,true,true,true,true,true,true,true,true,true,true,true,true,true,true,true,false,false] rfl rfl (any_of HT_.out (by kernel_rfl)) (fun _ _ _ h=>h) (Or.inl ⟨by rfl,?_⟩) ?_ ?_
           rotate_left
           ·
            intro w'
            go_simp
            with_reducible rfl
           rotate_left
           ·
            simp only [Act.put,la_,l0_,l1_,i64_w,i32_w]
            rfl
           refine pure_ (i:=29) (N:=some 67) (v:=?_) (a':=?_) #[true,true,true,true,true,true,true,true,true,true,true,true,true,true,true,true,true,true,true,true,true,true,true,true,true,true,true,true,true,true,false] rfl rfl (any_of HT_.out (by kernel_rfl)) (fun _ _ _ h=>h) (Or.inl ⟨by rfl,?_⟩) ?_ ?_
           rotate_left
           ·
            intro w'
            go_simp
            with_reducible rfl
           rotate_left
           ·
            simp only [Act.put,la_,l0_,l1_,i64_w,i32_w]
            rfl
           refine pure_ (i:=30) (N:=some 68) (v:=?_) (a':=?_) #[true,true,true,true,true,true,true,true,true,true,true,true,true,true,true,true,true,true,true,true,true,true,true,true,true,true,true,true,true,true,true] rfl rfl (any_of HT_.out (by kernel_rfl)) (fun _ _ _ h=>h) (Or.inl ⟨by rfl,?_⟩) ?_ ?_
           rotate_left
           ·
            intro w'
            go_simp
            with_reducible rfl
           rotate_left
           ·
            simp only [Act.put,la_,l0_,l1_,i64_w,i32_w]
            rfl
           refine done_ (done_of HT_.out (by kernel_rfl)) ?_
           try go_wp2
           go_meet
           case rel=>exact ⟨_,(false),(by first|rfl|(simp;done)|(simp [*];done)),H',⟨by have:=HK1.out;have:=HK2.out;first|omega|exact Nat.le_refl _⟩,⟨by (with_reducible repeat (first|apply ra_|apply rn_|apply rd_));exact HO_4.out⟩,⟨by (with_reducible repeat (first|refine kn_ ?_ _|refine kd_ ?_|refine ka_ ?_ _));exact BK284.out⟩,⟨by (with_reducible repeat (first|refine kn_ ?_ _|refine kd_ ?_|refine ka_ ?_ _));exact BK288.out⟩,⟨by repeat (first|(with_reducible first|exact HB.out|apply ba_|apply bn_|apply bd_|refine below_set ?_ GE284.out|refine below_set ?_ GE288.out)|exact HB.out)⟩⟩
          rw [if_neg c22] at H
          have c22b0 : (!(((rd_T30 l0 x7_2).f0) == x285000_1) || (!(((rd_T30 l0 x7_2).f1) == x285001_1))) = false:=by simpa using c22
          clear c22
          (first|rw [c22b0]|(simp only [i64_w,i32_w];rw [c22b0])|skip)
          have H':=Aside0.mk H
          clear H
          try go_wp2
          have n0_:=Aside0.mk (rd_ HO_4.out)
          have n1_:=Aside0.mk (kd_ BK284.out)
          have n2_:=Aside0.mk (kd_ BK288.out)
          have n3_:=Aside0.mk (bd_ HB.out)
          clear HO_4
          clear BK284
          clear BK288
          clear HB
          have HO_4:=n0_
          have BK284:=n1_
          have BK288:=n2_
          have HB:=n3_
          clear n0_ n1_ n2_ n3_
          have p291 : 0 ≤ (x7_2 : Int):=of_decide_eq_true (by first|(with_reducible assumption)|assumption)
          have q291 : x7_2 < (l0.length : Int):=of_decide_eq_true (by first|(with_reducible assumption)|assumption)
          obtain ⟨ad291,e291,hx291_0,hx291_1⟩:=at_T30 HR0.out x7_2 p291 q291
          have hw291_1:=hx291_1
          have hw291_0:=hx291_0
          obtain rfl : ad289 = ad291:=(by injection e291)
          replace hx291_0:=(HB.out.cell (bl_ w _ hx291_0)).trans hx291_0
          replace hx291_1:=(HB.out.cell (bl_ w _ hx291_1)).trans hx291_1
          replace p291:=eq_true p291
          replace q291:=eq_true q291
          refine start_ (n:=31) (S:=fun w'=>w'.cell? ⟨gb284,0,none⟩ = some (.int .i64 x285000_1)∧w'.cell? ⟨gb284,1,none⟩ = some (.int .i64 x285001_1)∧w'.cell? (ad289.add ((x7_2).toNat * 2)) = some (.int .i64 ((rd_T30 l0 x7_2).f0))∧w'.cell? ⟨(ad289.add ((x7_2).toNat * 2)).block,(ad289.add ((x7_2).toNat * 2)).off + 1,none⟩ = some (.int .i64 ((rd_T30 l0 x7_2).f1))) (ds:=[]) #[false,false,false,false,false,false,false,false,false,false,false,false,false,false,false,false,false,false,false,false,false,false,false,false,false,false,false,false,false,false,false] (by kernel_rfl) rfl rfl ⟨(blk_cell BK284.out 0).trans rfl,(blk_cell BK284.out 1).trans rfl,((HB.out.cell (bl_ w _ hw291_0)).trans hw291_0),((HB.out.cell (bl_ w _ hw291_1)).trans hw291_1)⟩ (fun hHeld=>?_);refine with_tabW garmentref14_wrap.tab13 garmentref14_wrap.bits13 (fun HT_ HW_=>?_)
          generalize w21.drew = w34 at HO_4 BK284 BK288 HB hx291_0 hx291_1 hHeld ⊢
          refine pure_ (i:=0) (N:=some 38) (v:=?_) (a':=?_) #[true,false,false,false,false,false,false,false,false,false,false,false,false,false,false,false,false,false,false,false,false,false,false,false,false,false,false,false,false,false,false] rfl rfl (any_of HT_.out (by kernel_rfl)) (fun _ _ _ h=>h) (Or.inl ⟨by rfl,?_⟩) ?_ ?_
          rotate_left
          ·
           intro w'
           go_simp
           with_reducible rfl
          rotate_left
          ·
           simp only [Act.put,la_,l0_,l1_,i64_w,i32_w]
           rfl
          refine pure_ (i:=1) (N:=some 39) (v:=?_) (a':=?_) #[true,true,false,false,false,false,false,false,false,false,false,false,false,false,false,false,false,false,false,false,false,false,false,false,false,false,false,false,false,false,false] rfl rfl (any_of HT_.out (by kernel_rfl)) (fun _ _ _ h=>h) (Or.inl ⟨by rfl,?_⟩) ?_ ?_
          rotate_left
          ·
           intro w'
           go_simp
           with_reducible rfl
          rotate_left
          ·
           simp only [Act.put,la_,l0_,l1_,i64_w,i32_w]
           rfl
          refine pure_ (i:=2) (N:=some 40) (v:=?_) (a':=?_) #[true,true,true,false,false,false,false,false,false,false,false,false,false,false,false,false,false,false,false,false,false,false,false,false,false,false,false,false,false,false,false] rfl rfl (any_of HT_.out (by kernel_rfl)) (fun _ _ _ h=>h) (Or.inl ⟨by rfl,?_⟩) ?_ ?_
          rotate_left
          ·
           intro w'
           go_simp
           with_reducible rfl
          rotate_left
          ·
           simp only [Act.put,la_,l0_,l1_,i64_w,i32_w]
           rfl
          refine take_ (i:=3) (N:=some 41) (v:=?_) (a':=?_) #[true,true,true,true,false,false,false,false,false,false,false,false,false,false,false,false,false,false,false,false,false,false,false,false,false,false,false,false,false,false,false] rfl rfl (take_ofW HT_.out HW_.out (by kernel_rfl)) (fun _ _ _ h=>h) (Or.inl ⟨by rfl,?_⟩) hHeld ?_ ?_
          rotate_left
          ·
           rintro w' ⟨s0,s1,s2,s3⟩
           go_simp
           with_reducible rfl
          rotate_left
          ·
           simp only [Act.put,la_,l0_,l1_,i64_w,i32_w]
           rfl
          refine take_ (i:=4) (N:=some 42) (v:=?_) (a':=?_) #[true,true,true,true,true,false,false,false,false,false,false,false,false,false,false,false,false,false,false,false,false,false,false,false,false,false,false,false,false,false,false] rfl rfl (take_ofW HT_.out HW_.out (by kernel_rfl)) (fun _ _ _ h=>h) (Or.inl ⟨by rfl,?_⟩) hHeld ?_ ?_
          rotate_left
          ·
           rintro w' ⟨s0,s1,s2,s3⟩
           go_simp
           with_reducible rfl
          rotate_left
          ·
           simp only [Act.put,la_,l0_,l1_,i64_w,i32_w]
           rfl
          refine pure_ (i:=5) (N:=some 43) (v:=?_) (a':=?_) #[true,true,true,true,true,true,false,false,false,false,false,false,false,false,false,false,false,false,false,false,false,false,false,false,false,false,false,false,false,false,false] rfl rfl (any_of HT_.out (by kernel_rfl)) (fun _ _ _ h=>h) (Or.inl ⟨by rfl,?_⟩) ?_ ?_
          rotate_left
          ·
           intro w'
           go_simp
           with_reducible rfl
          rotate_left
          ·
           simp only [Act.put,la_,l0_,l1_,i64_w,i32_w]
           rfl
          refine pure_ (i:=6) (N:=some 44) (v:=?_) (a':=?_) #[true,true,true,true,true,true,true,false,false,false,false,false,false,false,false,false,false,false,false,false,false,false,false,false,false,false,false,false,false,false,false] rfl rfl (any_of HT_.out (by kernel_rfl)) (fun _ _ _ h=>h) (Or.inl ⟨by rfl,?_⟩) ?_ ?_
          rotate_left
          ·
           intro w'
           go_simp
           with_reducible rfl
          rotate_left
          ·
           simp only [Act.put,la_,l0_,l1_,i64_w,i32_w]
           rfl
          refine pure_ (i:=7) (N:=some 45) (v:=undef) (a':=?_) #[true,true,true,true,true,true,true,true,false,false,false,false,false,false,false,false,false,false,false,false,false,false,false,false,false,false,false,false,false,false,false] rfl rfl (any_of HT_.out (by kernel_rfl)) (fun _ _ _ h=>h) (Or.inr ⟨by rfl,rfl⟩) ?_ ?_
          rotate_left
          ·
           simp only [Act.put,la_,l0_,l1_,i64_w,i32_w]
           rfl
          refine pure_ (i:=8) (N:=some 46) (v:=undef) (a':=?_) #[true,true,true,true,true,true,true,true,true,false,false,false,false,false,false,false,false,false,false,false,false,false,false,false,false,false,false,false,false,false,false] rfl rfl (any_of HT_.out (by kernel_rfl)) (fun _ _ _ h=>h) (Or.inr ⟨by rfl,rfl⟩) ?_ ?_
          rotate_left
          ·
           simp only [Act.put,la_,l0_,l1_,i64_w,i32_w]
           rfl
          refine pure_ (i:=9) (N:=some 47) (v:=undef) (a':=?_) #[true,true,true,true,true,true,true,true,true,true,false,false,false,false,false,false,false,false,false,false,false,false,false,false,false,false,false,false,false,false,false] rfl rfl (any_of HT_.out (by kernel_rfl)) (fun _ _ _ h=>h) (Or.inr ⟨by rfl,rfl⟩) ?_ ?_
          rotate_left
          ·
           simp only [Act.put,la_,l0_,l1_,i64_w,i32_w]
           rfl
          refine pure_ (i:=10) (N:=some 48) (v:=undef) (a':=?_) #[true,true,true,true,true,true,true,true,true,true,true,false,false,false,false,false,false,false,false,false,false,false,false,false,false,false,false,false,false,false,false] rfl rfl (any_of HT_.out (by kernel_rfl)) (fun _ _ _ h=>h) (Or.inr ⟨by rfl,rfl⟩) ?_ ?_
          rotate_left
          ·
           simp only [Act.put,la_,l0_,l1_,i64_w,i32_w]
           rfl
          refine pure_ (i:=11) (N:=some 49) (v:=undef) (a':=?_) #[true,true,true,true,true,true,true,true,true,true,true,true,false,false,false,false,false,false,false,false,false,false,false,false,false,false,false,false,false,false,false] rfl rfl (any_of HT_.out (by kernel_rfl)) (fun _ _ _ h=>h) (Or.inr ⟨by rfl,rfl⟩) ?_ ?_
          rotate_left
          ·
           simp only [Act.put,la_,l0_,l1_,i64_w,i32_w]
           rfl
          refine pure_ (i:=12) (N:=some 50) (v:=undef) (a':=?_) #[true,true,true,true,true,true,true,true,true,true,true,true,true,false,false,false,false,false,false,false,false,false,false,false,false,false,false,false,false,false,false] rfl rfl (any_of HT_.out (by kernel_rfl)) (fun _ _ _ h=>h) (Or.inr ⟨by rfl,rfl⟩) ?_ ?_
          rotate_left
          ·
           simp only [Act.put,la_,l0_,l1_,i64_w,i32_w]
           rfl
          refine pure_ (i:=13) (N:=some 51) (v:=undef) (a':=?_) #[true,true,true,true,true,true,true,true,true,true,true,true,true,true,false,false,false,false,false,false,false,false,false,false,false,false,false,false,false,false,false] rfl rfl (any_of HT_.out (by kernel_rfl)) (fun _ _ _ h=>h) (Or.inr ⟨by rfl,rfl⟩) ?_ ?_
          rotate_left
          ·
           simp only [Act.put,la_,l0_,l1_,i64_w,i32_w]
           rfl
          refine pure_ (i:=14) (N:=some 52) (v:=undef) (a':=?_) #[true,true,true,true,true,true,true,true,true,true,true,true,true,true,true,false,false,false,false,false,false,false,false,false,false,false,false,false,false,false,false] rfl rfl (any_of HT_.out (by kernel_rfl)) (fun _ _ _ h=>h) (Or.inr ⟨by rfl,rfl⟩) ?_ ?_
          rotate_left
          ·
           simp only [Act.put,la_,l0_,l1_,i64_w,i32_w]
           rfl
          refine pure_ (i:=15) (N:=some 53) (v:=undef) (a':=?_) #[true,true,true,true,true,true,true,true,true,true,true,true,true,true,true,true,false,false,false,false,false,false,false,false,false,false,false,false,false,false,false] rfl rfl (any_of HT_.out (by kernel_rfl)) (fun _ _ _ h=>h) (Or.inr ⟨by rfl,rfl⟩) ?_ ?_
          rotate_left
          ·
           simp only [Act.put,la_,l0_,l1_,i64_w,i32_w]
           rfl
          refine pure_ (i:=16) (N:=some 54) (v:=undef) (a':=?_) #[true,true,true,true,true,true,true,true,true,true,true,true,true,true,true,true,true,false,false,false,false,false,false,false,false,false,false,false,false,false,false] rfl rfl (any_of HT_.out (by kernel_rfl)) (fun _ _ _ h=>h) (Or.inr ⟨by rfl,rfl⟩) ?_ ?_
          rotate_left
          ·
           simp only [Act.put,la_,l0_,l1_,i64_w,i32_w]
           rfl
          refine pure_ (i:=17) (N:=some 55) (v:=undef) (a':=?_) #[true,true,true,true,true,true,true,true,true,true,true,true,true,true,true,true,true,true,false,false,false,false,false,false,false,false,false,false,false,false,false] rfl rfl (any_of HT_.out (by kernel_rfl)) (fun _ _ _ h=>h) (Or.inr ⟨by rfl,rfl⟩) ?_ ?_
          rotate_left
          ·
           simp only [Act.put,la_,l0_,l1_,i64_w,i32_w]
           rfl
          refine pure_ (i:=18) (N:=some 56) (v:=undef) (a':=?_) #[true,true,true,true,true,true,true,true,true,true,true,true,true,true,true,true,true,true,true,false,false,false,false,false,false,false,false,false,false,false,false] rfl rfl (any_of HT_.out (by kernel_rfl)) (fun _ _ _ h=>h) (Or.inr ⟨by rfl,rfl⟩) ?_ ?_
          rotate_left
          ·
           simp only [Act.put,la_,l0_,l1_,i64_w,i32_w]
           rfl
          refine pure_ (i:=19) (N:=some 57) (v:=undef) (a':=?_) #[true,true,true,true,true,true,true,true,true,true,true,true,true,true,true,true,true,true,true,true,false,false,false,false,false,false,false,false,false,false,false] rfl rfl (any_of HT_.out (by kernel_rfl)) (fun _ _ _ h=>h) (Or.inr ⟨by rfl,rfl⟩) ?_ ?_
          rotate_left
          ·
           simp only [Act.put,la_,l0_,l1_,i64_w,i32_w]
           rfl
          refine pure_ (i:=20) (N:=some 58) (v:=undef) (a':=?_) #[true,true,true,true,true,true,true,true,true,true,true,true,true,true,true,true,true,true,true,true,true,false,false,false,false,false,false,false,false,false,false] rfl rfl (any_of HT_.out (by kernel_rfl)) (fun _ _ _ h=>h) (Or.inr ⟨by rfl,rfl⟩) ?_ ?_
          rotate_left
          ·
           simp only [Act.put,la_,l0_,l1_,i64_w,i32_w]
           rfl
          refine pure_ (i:=21) (N:=some 59) (v:=undef) (a':=?_) #[true,true,true,true,true,true,true,true,true,true,true,true,true,true,true,true,true,true,true,true,true,true,false,false,false,false,false,false,false,false,false] rfl rfl (any_of HT_.out (by kernel_rfl)) (fun _ _ _ h=>h) (Or.inr ⟨by rfl,rfl⟩) ?_ ?_
          rotate_left
          ·
           simp only [Act.put,la_,l0_,l1_,i64_w,i32_w]
           rfl
          refine pure_ (i:=22) (N:=some 60) (v:=undef) (a':=?_) #[true,true,true,true,true,true,true,true,true,true,true,true,true,true,true,true,true,true,true,true,true,true,true,false,false,false,false,false,false,false,false] rfl rfl (any_of HT_.out (by kernel_rfl)) (fun _ _ _ h=>h) (Or.inr ⟨by rfl,rfl⟩) ?_ ?_
          rotate_left
          ·
           simp only [Act.put,la_,l0_,l1_,i64_w,i32_w]
           rfl
          refine pure_ (i:=23) (N:=some 61) (v:=undef) (a':=?_) #[true,true,true,true,true,true,true,true,true,true,true,true,true,true,true,true,true,true,true,true,true,true,true,true,false,false,false,false,false,false,false] rfl rfl (any_of HT_.out (by kernel_rfl)) (fun _ _ _ h=>h) (Or.inr ⟨by rfl,rfl⟩) ?_ ?_
          rotate_left
          ·
           simp only [Act.put,la_,l0_,l1_,i64_w,i32_w]
           rfl
          refine pure_ (i:=24) (N:=some 62) (v:=undef) (a':=?_) #[true,true,true,true,true,true,true,true,true,true,true,true,true,true,true,true,true,true,true,true,true,true,true,true,true,false,false,false,false,false,false] rfl rfl (any_of HT_.out (by kernel_rfl)) (fun _ _ _ h=>h) (Or.inr ⟨by rfl,rfl⟩) ?_ ?_
          rotate_left
          ·
           simp only [Act.put,la_,l0_,l1_,i64_w,i32_w]
           rfl
          refine pure_ (i:=25) (N:=some 63) (v:=undef) (a':=?_) #[true,true,true,true,true,true,true,true,true,true,true,true,true,true,true,true,true,true,true,true,true,true,true,true,true,true,false,false,false,false,false] rfl rfl (any_of HT_.out (by kernel_rfl)) (fun _ _ _ h=>h) (Or.inr ⟨by rfl,rfl⟩) ?_ ?_
          rotate_left
          ·
           simp only [Act.put,la_,l0_,l1_,i64_w,i32_w]
           rfl
          refine pure_ (i:=26) (N:=some 64) (v:=undef) (a':=?_) #[true,true,true,true,true,true,true,true,true,true,true,true,true,true,true,true,true,true,true,true,true,true,true,true,true,true,true,false,false,false,false] rfl rfl (any_of HT_.out (by kernel_rfl)) (fun _ _ _ h=>h) (Or.inr ⟨by rfl,rfl⟩) ?_ ?_
          rotate_left
          ·
           simp only [Act.put,la_,l0_,l1_,i64_w,i32_w]
           rfl
          refine pure_ (i:=27) (N:=some 65) (v:=undef) (a':=?_) #[true,true,true,true,true,true,true,true,true,true,true,true,true,true,true,true,true,true,true,true,true,true,true,true,true,true,true,true,false,false,false] rfl rfl (any_of HT_.out (by kernel_rfl)) (fun _ _ _ h=>h) (Or.inr ⟨by rfl,rfl⟩) ?_ ?_
          rotate_left
          ·
           simp only [Act.put,la_,l0_,l1_,i64_w,i32_w]
           rfl
          refine pure_ (i:=28) (N:=some 66) (v:=undef) (a':=?_) #[true,true,true,true,true,true,true,true,true,true,true,true,true,true,true,true,true,true,true,true,true,true,true,true,true,true,true,true,true,false,false] rfl rfl (any_of HT_.out (by kernel_rfl)) (fun _ _ _ h=>h) (Or.inr ⟨by rfl,rfl⟩) ?_ ?_
          rotate_left
          ·
           simp only [Act.put,la_,l0_,l1_,i64_w,i32_w]
           rfl
          refine pure_ (i:=29) (N:=some 67) (v:=undef) (a':=?_) #[true,true,true,true,true,true,true,true,true,true,true,true,true,true,true,true,true,true,true,true,true,true,true,true,true,true,true,true,true,true,false] rfl rfl (any_of HT_.out (by kernel_rfl)) (fun _ _ _ h=>h) (Or.inr ⟨by rfl,rfl⟩) ?_ ?_
          rotate_left
          ·
           simp only [Act.put,la_,l0_,l1_,i64_w,i32_w]
           rfl
          refine pure_ (i:=30) (N:=some 68) (v:=?_) (a':=?_) #[true,true,true,true,true,true,true,true,true,true,true,true,true,true,true,true,true,true,true,true,true,true,true,true,true,true,true,true,true,true,true] rfl rfl (any_of HT_.out (by kernel_rfl)) (fun _ _ _ h=>h) (Or.inl ⟨by rfl,?_⟩) ?_ ?_
          rotate_left
          ·
           intro w'
           go_simp
           with_reducible rfl
          rotate_left
          ·
           simp only [Act.put,la_,l0_,l1_,i64_w,i32_w]
           rfl
          refine done_ (done_of HT_.out (by kernel_rfl)) ?_
          try go_wp2
          go_meet
          case rel=>exact ⟨_,(false),(by first|rfl|(simp;done)|(simp [*];done)),H',⟨by have:=HK1.out;have:=HK2.out;first|omega|exact Nat.le_refl _⟩,⟨by (with_reducible repeat (first|apply ra_|apply rn_|apply rd_));exact HO_4.out⟩,⟨by (with_reducible repeat (first|refine kn_ ?_ _|refine kd_ ?_|refine ka_ ?_ _));exact BK284.out⟩,⟨by (with_reducible repeat (first|refine kn_ ?_ _|refine kd_ ?_|refine ka_ ?_ _));exact BK288.out⟩,⟨by repeat (first|(with_reducible first|exact HB.out|apply ba_|apply bn_|apply bd_|refine below_set ?_ GE284.out|refine below_set ?_ GE288.out)|exact HB.out)⟩⟩
         case rest =>
          clear HC19
          try clear c2
          try clear p2
          try clear q2
          try clear hx2
          try clear c4
          try clear c22
          try clear c22b0
          try clear c27
          try clear c27b0
          try clear c27b1
          try clear p29
          try clear q29
          try clear hx29
          try clear hx291_0
          try clear hx291_1
          try clear p291
          try clear q291
          obtain ⟨kq,x68_18,rfl,HA,HJ18,HO_4,BK284,BK288,HB⟩:=hcut
          cases kq with
          | zero=>exact absurd HA.out (by simp [garmentref14_wrap.j2])
          | succ kj18 =>
           have H:=HA.out
           clear HA
           simp only [garmentref14_wrap.j2] at H
           by_cases c35 : x68_18 = true
           ·
            subst c35
            have H1 : (if 0 ≤ x7_2 then (if x7_2 < (l0.length : Int) then (garmentref14_wrap.l1 kj18 l0 x4_1 x5_1 (wrap64 (x7_2 + 1)) x285000_1 x285001_1 ((rd_T30 l0 x7_2).f0) ((rd_T30 l0 x7_2).f1)) else (none)) else (none)) = some r:=by rw [if_pos rfl] at H;exact H
            clear H
            have H:=H1
            clear H1
            by_cases c36 : 0 ≤ x7_2
            ·
             rw [if_pos c36] at H
             have c36b0 : decide (0 ≤ x7_2) = true:=decide_eq_true c36
             clear c36
             by_cases c37 : x7_2 < (l0.length : Int)
             ·
              rw [if_pos c37] at H
              have c37b0 : decide (x7_2 < (l0.length : Int)) = true:=decide_eq_true c37
              clear c37
              have H':=Aside0.mk H
              clear H
              have p295 : 0 ≤ (x7_2 : Int):=of_decide_eq_true (by first|(with_reducible assumption)|assumption)
              have q295 : x7_2 < (l0.length : Int):=of_decide_eq_true (by first|(with_reducible assumption)|assumption)
              obtain ⟨ad295,e295,hx295_0,hx295_1⟩:=at_T30 HR0.out x7_2 p295 q295
              obtain rfl : ad289 = ad295:=(by injection e295)
              replace hx295_0:=(HB.out.cell (bl_ w _ hx295_0)).trans hx295_0
              replace hx295_1:=(HB.out.cell (bl_ w _ hx295_1)).trans hx295_1
              replace p295:=eq_true p295
              replace q295:=eq_true q295
              have hnb38:=NB288_284.out
              have hnc38:=NB284_288.out
              have hcz39_0 : wc.cell? ⟨gb288,0,none⟩ = some (.int .i64 x289000_2):=(blk_cell BK288.out 0).trans rfl
              have hcz39_1 : wc.cell? ⟨gb288,1,none⟩ = some (.int .i64 x289001_2):=(blk_cell BK288.out 1).trans rfl
              have hfz39_0:=blk_frozen BK288.out 0
              have hfz39_1:=blk_frozen BK288.out 1
              go_wp2
              go_roundg kj18
              case measure=>have:=HK1.out;have:=HK2.out;have:=HJ18.out;omega
              case rel=>exact ⟨(wrap64 (x7_2 + 1)),((rd_T30 l0 x7_2).f0),((rd_T30 l0 x7_2).f1),(by first|rfl|(simp;done)|(simp [*];done)),H',⟨by have:=HK1.out;have:=HK2.out;have:=HJ18.out;omega⟩,⟨by (with_reducible repeat (first|apply ra_|apply rn_|apply rd_));exact Kd.R_mono (Kd.R_far (p:=⟨gb288,1,none⟩) (Kd.R_far (p:=⟨gb288,0,none⟩) (Kd.R_mono HO_4.out (fun k_ hk=>(⟨hk,hk.2⟩ : _∧k_ ≠ gb288))) (fun _ hk=>hk.2) (.int .i64 ((rd_T30 l0 x7_2).f0))) (fun _ hk=>hk.2) (.int .i64 ((rd_T30 l0 x7_2).f1))) (fun _ hk=>⟨hk.1.1,hk.1.2⟩)⟩,⟨by (with_reducible repeat (first|refine kn_ ?_ _|refine kd_ ?_|refine ka_ ?_ _));refine blk_far ?_ NB284_288.out _;(with_reducible repeat (first|refine kn_ ?_ _|refine kd_ ?_|refine ka_ ?_ _));refine blk_far ?_ NB284_288.out _;(with_reducible repeat (first|refine kn_ ?_ _|refine kd_ ?_|refine ka_ ?_ _));exact BK284.out⟩,⟨by (with_reducible repeat (first|refine kn_ ?_ _|refine kd_ ?_|refine ka_ ?_ _));refine blk_put (cs:=#[.int .i64 ((rd_T30 l0 x7_2).f0),.int .i64 x289001_2]) ?_ 1 _ rfl;(with_reducible repeat (first|refine kn_ ?_ _|refine kd_ ?_|refine ka_ ?_ _));refine blk_put (cs:=#[.int .i64 x289000_2,.int .i64 x289001_2]) ?_ 0 _ rfl;(with_reducible repeat (first|refine kn_ ?_ _|refine kd_ ?_|refine ka_ ?_ _));exact BK288.out⟩,⟨by repeat (first|(with_reducible first|exact HB.out|apply ba_|apply bn_|apply bd_|refine below_set ?_ GE284.out|refine below_set ?_ GE288.out)|exact HB.out)⟩⟩
             rw [if_neg c37] at H
             exact absurd H (by simp)
            rw [if_neg c36] at H
            exact absurd H (by simp)
           replace c35:=Bool.eq_false_iff.mpr c35
           subst c35
           have H1 : (garmentref14_wrap.l1 kj18 l0 x4_1 x5_1 (wrap64 (x7_2 + 1)) x285000_1 x285001_1 x289000_2 x289001_2) = some r:=by rw [if_neg (show ¬ (false = true) by decide)] at H;exact H
           clear H
           have H:=H1
           clear H1
           have H':=Aside0.mk H
           clear H
           go_wp2
           go_roundg kj18
           case measure=>have:=HK1.out;have:=HK2.out;have:=HJ18.out;omega
           case rel=>exact ⟨(wrap64 (x7_2 + 1)),(x289000_2),(x289001_2),(by first|rfl|(simp;done)|(simp [*];done)),H',⟨by have:=HK1.out;have:=HK2.out;have:=HJ18.out;omega⟩,⟨by (with_reducible repeat (first|apply ra_|apply rn_|apply rd_));exact HO_4.out⟩,⟨by (with_reducible repeat (first|refine kn_ ?_ _|refine kd_ ?_|refine ka_ ?_ _));exact BK284.out⟩,⟨by (with_reducible repeat (first|refine kn_ ?_ _|refine kd_ ?_|refine ka_ ?_ _));exact BK288.out⟩,⟨by repeat (first|(with_reducible first|exact HB.out|apply ba_|apply bn_|apply bd_|refine below_set ?_ GE284.out|refine below_set ?_ GE288.out)|exact HB.out)⟩⟩
        rw [if_neg c17] at H
        exact absurd H (by simp)
       rw [if_neg c16] at H
       have c16b0 : decide (x7_2 < (l0.length : Int)) = false:=decide_eq_false c16
       clear c16
       by_cases c40 : 0 < (x4_1.length : Int)
       ·
        rw [if_pos c40] at H
        have c40b0 : decide (0 < (x4_1.length : Int)) = true:=decide_eq_true c40
        have c40b1 : decide (0 < x4_1.length) = true:=decide_eq_true (by omega)
        clear c40
        by_cases c41 : (x289000_2 == ((rd_T30 x4_1 0).f0) && (x289001_2 == ((rd_T30 x4_1 0).f1))) = true
        ·
         rw [if_pos c41] at H
         have c41b0 : (x289000_2 == ((rd_T30 x4_1 0).f0) && (x289001_2 == ((rd_T30 x4_1 0).f1))) = true:=c41
         (try (have c41b1 : decide (x289000_2 = ((rd_T30 x4_1 0).f0) && (x289001_2 == ((rd_T30 x4_1 0).f1))) = true:=by simpa using c41))
         (try (have c41b2 : (x289000_2 == ((rd_T30 x4_1 0).f0) && (x289001_2 == ((rd_T30 x4_1 0).f1))) = true:=by simpa using c41))
         clear c41
         obtain rfl:=Option.some.inj H
         try go_wp2
         have n0_:=Aside0.mk (rd_ HO_4.out)
         have n1_:=Aside0.mk (kd_ BK284.out)
         have n2_:=Aside0.mk (kd_ BK288.out)
         have n3_:=Aside0.mk (bd_ HB.out)
         clear HO_4
         clear BK284
         clear BK288
         clear HB
         have HO_4:=n0_
         have BK284:=n1_
         have BK288:=n2_
         have HB:=n3_
         clear n0_ n1_ n2_ n3_
         obtain ⟨Ao43,co43,eo43⟩:=Kd.R_slice HO_4.out
         (first|subst eo43|(injection eo43 with f1_ f2_ f3_;have f4_:=f1_.symm;have f5_:=f3_.symm;clear f1_ f2_ f3_;subst f4_;subst f5_))
         have p296 : 0 ≤ (0 : Int):=(by omega)
         have q296 : 0 < (x4_1.length : Int):=of_decide_eq_true (by first|(with_reducible assumption)|assumption)
         obtain ⟨ad296,e296,hx296_0,hx296_1⟩:=at_T30 (Kd.R_reads' HO_4.out).2.2 0 p296 q296
         cases e296
         have qi296 : (0 < x4_1.length) = True:=eq_true (by omega)
         (try rw [show ((0 : Int)).toNat = 0 from rfl] at hx296_0)
         (try rw [show 0 * 2 = 0 from rfl] at hx296_0)
         (try rw [Addr.add_zero'] at hx296_0)
         (try rw [show ((0 : Int)).toNat = 0 from rfl] at hx296_1)
         (try rw [show 0 * 2 = 0 from rfl] at hx296_1)
         (try rw [Addr.add_zero'] at hx296_1)
         replace p296:=eq_true p296
         replace q296:=eq_true q296
         refine start_ (n:=10) (S:=fun w'=>w'.cell? ⟨gb288,0,none⟩ = some (.int .i64 x289000_2)∧w'.cell? ⟨gb288,1,none⟩ = some (.int .i64 x289001_2)∧w'.cell? ad296 = some (.int .i64 ((rd_T30 x4_1 0).f0))∧w'.cell? ⟨ad296.block,ad296.off + 1,none⟩ = some (.int .i64 ((rd_T30 x4_1 0).f1))) (ds:=[]) #[false,false,false,false,false,false,false,false,false,false] (by kernel_rfl) rfl rfl ⟨(blk_cell BK288.out 0).trans rfl,(blk_cell BK288.out 1).trans rfl,hx296_0,hx296_1⟩ (fun hHeld=>?_);refine with_tabW garmentref14_wrap.tab15 garmentref14_wrap.bits15 (fun HT_ HW_=>?_)
         generalize wr.drew = w42 at HO_4 BK284 BK288 HB hx296_0 hx296_1 hHeld ⊢
         refine pure_ (i:=1) (N:=some 74) (v:=?_) (a':=?_) #[false,true,false,false,false,false,false,false,false,false] rfl rfl (any_of HT_.out (by kernel_rfl)) (fun _ _ _ h=>h) (Or.inl ⟨by rfl,?_⟩) ?_ ?_
         rotate_left
         ·
          intro w'
          go_simp
          with_reducible rfl
         rotate_left
         ·
          simp only [Act.put,la_,l0_,l1_,i64_w,i32_w]
          rfl
         refine pure_ (i:=2) (N:=some 75) (v:=?_) (a':=?_) #[false,true,true,false,false,false,false,false,false,false] rfl rfl (any_of HT_.out (by kernel_rfl)) (fun _ _ _ h=>h) (Or.inl ⟨by rfl,?_⟩) ?_ ?_
         rotate_left
         ·
          intro w'
          go_simp
          with_reducible rfl
         rotate_left
         ·
          simp only [Act.put,la_,l0_,l1_,i64_w,i32_w]
          rfl
         refine take_ (i:=0) (N:=some 73) (v:=?_) (a':=?_) #[true,true,true,false,false,false,false,false,false,false] rfl rfl (take_ofW HT_.out HW_.out (by kernel_rfl)) (fun _ _ _ h=>h) (Or.inl ⟨by rfl,?_⟩) hHeld ?_ ?_
         rotate_left
         ·
          rintro w' ⟨s0,s1,s2,s3⟩
          go_simp
          with_reducible rfl
         rotate_left
         ·
          simp only [Act.put,la_,l0_,l1_,i64_w,i32_w]
          rfl
         refine take_ (i:=3) (N:=some 76) (v:=?_) (a':=?_) #[true,true,true,true,false,false,false,false,false,false] rfl rfl (take_ofW HT_.out HW_.out (by kernel_rfl)) (fun _ _ _ h=>h) (Or.inl ⟨by rfl,?_⟩) hHeld ?_ ?_
         rotate_left
         ·
          rintro w' ⟨s0,s1,s2,s3⟩
          go_simp
          with_reducible rfl
         rotate_left
         ·
          simp only [Act.put,la_,l0_,l1_,i64_w,i32_w]
          rfl
         refine pure_ (i:=4) (N:=some 77) (v:=?_) (a':=?_) #[true,true,true,true,true,false,false,false,false,false] rfl rfl (any_of HT_.out (by kernel_rfl)) (fun _ _ _ h=>h) (Or.inl ⟨by rfl,?_⟩) ?_ ?_
         rotate_left
         ·
          intro w'
          go_simp
          with_reducible rfl
         rotate_left
         ·
          simp only [Act.put,la_,l0_,l1_,i64_w,i32_w]
          rfl
         refine pure_ (i:=5) (N:=some 78) (v:=?_) (a':=?_) #[true,true,true,true,true,true,false,false,false,false] rfl rfl (any_of HT_.out (by kernel_rfl)) (fun _ _ _ h=>h) (Or.inl ⟨by rfl,?_⟩) ?_ ?_
         rotate_left
         ·
          intro w'
          go_simp
          with_reducible rfl
         rotate_left
         ·
          simp only [Act.put,la_,l0_,l1_,i64_w,i32_w]
          rfl
         refine pure_ (i:=6) (N:=some 79) (v:=undef) (a':=?_) #[true,true,true,true,true,true,true,false,false,false] rfl rfl (any_of HT_.out (by kernel_rfl)) (fun _ _ _ h=>h) (Or.inr ⟨by rfl,rfl⟩) ?_ ?_
         rotate_left
         ·
          simp only [Act.put,la_,l0_,l1_,i64_w,i32_w]
          rfl
         refine pure_ (i:=7) (N:=some 80) (v:=undef) (a':=?_) #[true,true,true,true,true,true,true,true,false,false] rfl rfl (any_of HT_.out (by kernel_rfl)) (fun _ _ _ h=>h) (Or.inr ⟨by rfl,rfl⟩) ?_ ?_
         rotate_left
         ·
          simp only [Act.put,la_,l0_,l1_,i64_w,i32_w]
          rfl
         refine pure_ (i:=8) (N:=some 81) (v:=undef) (a':=?_) #[true,true,true,true,true,true,true,true,true,false] rfl rfl (any_of HT_.out (by kernel_rfl)) (fun _ _ _ h=>h) (Or.inr ⟨by rfl,rfl⟩) ?_ ?_
         rotate_left
         ·
          simp only [Act.put,la_,l0_,l1_,i64_w,i32_w]
          rfl
         refine pure_ (i:=9) (N:=some 82) (v:=?_) (a':=?_) #[true,true,true,true,true,true,true,true,true,true] rfl rfl (any_of HT_.out (by kernel_rfl)) (fun _ _ _ h=>h) (Or.inl ⟨by rfl,?_⟩) ?_ ?_
         rotate_left
         ·
          intro w'
          go_simp
          with_reducible rfl
         rotate_left
         ·
          simp only [Act.put,la_,l0_,l1_,i64_w,i32_w]
          rfl
         refine done_ (done_of HT_.out (by kernel_rfl)) ?_
         try go_wp2
         go_ret
         exact ⟨_,by first|rfl|(simp [errW_none,errW_some] <;> rfl)|(simp [*,errW_none,errW_some] <;> rfl),by (with_reducible repeat (first|apply ra_|apply rn_|apply rd_));exact Kd.R_mono HO_4.out (fun _ hk=>trivial),by repeat (first|(with_reducible first|exact HB.out|apply ba_|apply bn_|apply bd_|refine below_set ?_ GE284.out|refine below_set ?_ GE288.out)|exact HB.out)⟩
        rw [if_neg c41] at H
        have c41b0 : (x289000_2 == ((rd_T30 x4_1 0).f0) && (x289001_2 == ((rd_T30 x4_1 0).f1))) = false:=by simpa using c41
        (try (have c41b1 : decide (x289000_2 = ((rd_T30 x4_1 0).f0) && (x289001_2 == ((rd_T30 x4_1 0).f1))) = false:=by simpa using c41))
        (try (have c41b2 : (x289000_2 == ((rd_T30 x4_1 0).f0) && (x289001_2 == ((rd_T30 x4_1 0).f1))) = false:=by simpa using c41))
        (try (have c41b3 : ¬ (x289000_2 = ((rd_T30 x4_1 0).f0) && (x289001_2 == ((rd_T30 x4_1 0).f1))):=by simpa using c41))
        clear c41
        by_cases c44 : (x289000_2 == x285000_1 && (x289001_2 == x285001_1)) = true
        ·
         rw [if_pos c44] at H
         have c44b0 : (x289000_2 == x285000_1 && (x289001_2 == x285001_1)) = true:=c44
         (try (have c44b1 : decide (x289000_2 = x285000_1 && (x289001_2 == x285001_1)) = true:=by simpa using c44))
         (try (have c44b2 : (x289000_2 == x285000_1 && (x289001_2 == x285001_1)) = true:=by simpa using c44))
         clear c44
         obtain rfl:=Option.some.inj H
         try go_wp2
         have n0_:=Aside0.mk (rd_ HO_4.out)
         have n1_:=Aside0.mk (kd_ BK284.out)
         have n2_:=Aside0.mk (kd_ BK288.out)
         have n3_:=Aside0.mk (bd_ HB.out)
         clear HO_4
         clear BK284
         clear BK288
         clear HB
         have HO_4:=n0_
         have BK284:=n1_
         have BK288:=n2_
         have HB:=n3_
         clear n0_ n1_ n2_ n3_
         obtain ⟨Ao46,co46,eo46⟩:=Kd.R_slice HO_4.out
         (first|subst eo46|(injection eo46 with f1_ f2_ f3_;have f4_:=f1_.symm;have f5_:=f3_.symm;clear f1_ f2_ f3_;subst f4_;subst f5_))
         have p296 : 0 ≤ (0 : Int):=(by omega)
         have q296 : 0 < (x4_1.length : Int):=of_decide_eq_true (by first|(with_reducible assumption)|assumption)
         obtain ⟨ad296,e296,hx296_0,hx296_1⟩:=at_T30 (Kd.R_reads' HO_4.out).2.2 0 p296 q296
         cases e296
         have qi296 : (0 < x4_1.length) = True:=eq_true (by omega)
         (try rw [show ((0 : Int)).toNat = 0 from rfl] at hx296_0)
         (try rw [show 0 * 2 = 0 from rfl] at hx296_0)
         (try rw [Addr.add_zero'] at hx296_0)
         (try rw [show ((0 : Int)).toNat = 0 from rfl] at hx296_1)
         (try rw [show 0 * 2 = 0 from rfl] at hx296_1)
         (try rw [Addr.add_zero'] at hx296_1)
         replace p296:=eq_true p296
         replace q296:=eq_true q296
         refine start_ (n:=10) (S:=fun w'=>w'.cell? ⟨gb288,0,none⟩ = some (.int .i64 x289000_2)∧w'.cell? ⟨gb288,1,none⟩ = some (.int .i64 x289001_2)∧w'.cell? ⟨gb284,0,none⟩ = some (.int .i64 x285000_1)∧w'.cell? ⟨gb284,1,none⟩ = some (.int .i64 x285001_1)∧w'.cell? ad296 = some (.int .i64 ((rd_T30 x4_1 0).f0))∧w'.cell? ⟨ad296.block,ad296.off + 1,none⟩ = some (.int .i64 ((rd_T30 x4_1 0).f1))) (ds:=[]) #[false,false,false,false,false,false,false,false,false,false] (by kernel_rfl) rfl rfl ⟨(blk_cell BK288.out 0).trans rfl,(blk_cell BK288.out 1).trans rfl,(blk_cell BK284.out 0).trans rfl,(blk_cell BK284.out 1).trans rfl,hx296_0,hx296_1⟩ (fun hHeld=>?_);refine with_tabW garmentref14_wrap.tab15 garmentref14_wrap.bits15 (fun HT_ HW_=>?_)
         generalize wr.drew = w45 at HO_4 BK284 BK288 HB hx296_0 hx296_1 hHeld ⊢
         refine pure_ (i:=1) (N:=some 74) (v:=?_) (a':=?_) #[false,true,false,false,false,false,false,false,false,false] rfl rfl (any_of HT_.out (by kernel_rfl)) (fun _ _ _ h=>h) (Or.inl ⟨by rfl,?_⟩) ?_ ?_
         rotate_left
         ·
          intro w'
          go_simp
          with_reducible rfl
         rotate_left
         ·
          simp only [Act.put,la_,l0_,l1_,i64_w,i32_w]
          rfl
         refine pure_ (i:=2) (N:=some 75) (v:=?_) (a':=?_) #[false,true,true,false,false,false,false,false,false,false] rfl rfl (any_of HT_.out (by kernel_rfl)) (fun _ _ _ h=>h) (Or.inl ⟨by rfl,?_⟩) ?_ ?_
         rotate_left
         ·
          intro w'
          go_simp
          with_reducible rfl
         rotate_left
         ·
          simp only [Act.put,la_,l0_,l1_,i64_w,i32_w]
          rfl
         refine take_ (i:=0) (N:=some 73) (v:=?_) (a':=?_) #[true,true,true,false,false,false,false,false,false,false] rfl rfl (take_ofW HT_.out HW_.out (by kernel_rfl)) (fun _ _ _ h=>h) (Or.inl ⟨by rfl,?_⟩) hHeld ?_ ?_
         rotate_left
         ·
          rintro w' ⟨s0,s1,s2,s3,s4,s5⟩
          go_simp
          with_reducible rfl
         rotate_left
         ·
          simp only [Act.put,la_,l0_,l1_,i64_w,i32_w]
          rfl
         refine take_ (i:=3) (N:=some 76) (v:=?_) (a':=?_) #[true,true,true,true,false,false,false,false,false,false] rfl rfl (take_ofW HT_.out HW_.out (by kernel_rfl)) (fun _ _ _ h=>h) (Or.inl ⟨by rfl,?_⟩) hHeld ?_ ?_
         rotate_left
         ·
          rintro w' ⟨s0,s1,s2,s3,s4,s5⟩
          go_simp
          with_reducible rfl
         rotate_left
         ·
          simp only [Act.put,la_,l0_,l1_,i64_w,i32_w]
          rfl
         refine pure_ (i:=4) (N:=some 77) (v:=?_) (a':=?_) #[true,true,true,true,true,false,false,false,false,false] rfl rfl (any_of HT_.out (by kernel_rfl)) (fun _ _ _ h=>h) (Or.inl ⟨by rfl,?_⟩) ?_ ?_
         rotate_left
         ·
          intro w'
          go_simp
          with_reducible rfl
         rotate_left
         ·
          simp only [Act.put,la_,l0_,l1_,i64_w,i32_w]
          rfl
         refine pure_ (i:=5) (N:=some 78) (v:=?_) (a':=?_) #[true,true,true,true,true,true,false,false,false,false] rfl rfl (any_of HT_.out (by kernel_rfl)) (fun _ _ _ h=>h) (Or.inl ⟨by rfl,?_⟩) ?_ ?_
         rotate_left
         ·
          intro w'
          go_simp
          with_reducible rfl
         rotate_left
         ·
          simp only [Act.put,la_,l0_,l1_,i64_w,i32_w]
          rfl
         refine take_ (i:=6) (N:=some 79) (v:=?_) (a':=?_) #[true,true,true,true,true,true,true,false,false,false] rfl rfl (take_ofW HT_.out HW_.out (by kernel_rfl)) (fun _ _ _ h=>h) (Or.inl ⟨by rfl,?_⟩) hHeld ?_ ?_
         rotate_left
         ·
          rintro w' ⟨s0,s1,s2,s3,s4,s5⟩
          go_simp
          with_reducible rfl
         rotate_left
         ·
          simp only [Act.put,la_,l0_,l1_,i64_w,i32_w]
          rfl
         refine take_ (i:=7) (N:=some 80) (v:=?_) (a':=?_) #[true,true,true,true,true,true,true,true,false,false] rfl rfl (take_ofW HT_.out HW_.out (by kernel_rfl)) (fun _ _ _ h=>h) (Or.inl ⟨by rfl,?_⟩) hHeld ?_ ?_
         rotate_left
         ·
          rintro w' ⟨s0,s1,s2,s3,s4,s5⟩
          go_simp
          with_reducible rfl
         rotate_left
         ·
          simp only [Act.put,la_,l0_,l1_,i64_w,i32_w]
          rfl
         refine pure_ (i:=8) (N:=some 81) (v:=?_) (a':=?_) #[true,true,true,true,true,true,true,true,true,false] rfl rfl (any_of HT_.out (by kernel_rfl)) (fun _ _ _ h=>h) (Or.inl ⟨by rfl,?_⟩) ?_ ?_
         rotate_left
         ·
          intro w'
          go_simp
          with_reducible rfl
         rotate_left
         ·
          simp only [Act.put,la_,l0_,l1_,i64_w,i32_w]
          rfl
         refine pure_ (i:=9) (N:=some 82) (v:=?_) (a':=?_) #[true,true,true,true,true,true,true,true,true,true] rfl rfl (any_of HT_.out (by kernel_rfl)) (fun _ _ _ h=>h) (Or.inl ⟨by rfl,?_⟩) ?_ ?_
         rotate_left
         ·
          intro w'
          go_simp
          with_reducible rfl
         rotate_left
         ·
          simp only [Act.put,la_,l0_,l1_,i64_w,i32_w]
          rfl
         refine done_ (done_of HT_.out (by kernel_rfl)) ?_
         try go_wp2
         go_ret
         exact ⟨_,by first|rfl|(simp [errW_none,errW_some] <;> rfl)|(simp [*,errW_none,errW_some] <;> rfl),by (with_reducible repeat (first|apply ra_|apply rn_|apply rd_));exact Kd.R_mono HO_4.out (fun _ hk=>trivial),by repeat (first|(with_reducible first|exact HB.out|apply ba_|apply bn_|apply bd_|refine below_set ?_ GE284.out|refine below_set ?_ GE288.out)|exact HB.out)⟩
        rw [if_neg c44] at H
        have c44b0 : (x289000_2 == x285000_1 && (x289001_2 == x285001_1)) = false:=by simpa using c44
        (try (have c44b1 : decide (x289000_2 = x285000_1 && (x289001_2 == x285001_1)) = false:=by simpa using c44))
        (try (have c44b2 : (x289000_2 == x285000_1 && (x289001_2 == x285001_1)) = false:=by simpa using c44))
        (try (have c44b3 : ¬ (x289000_2 = x285000_1 && (x289001_2 == x285001_1)):=by simpa using c44))
        clear c44
        by_cases c47 : x4_1.length < 8796093022208
        ·
         rw [if_pos c47] at H
         have LMc47:=Aside0.mk c47
         clear c47
         obtain ⟨y297,hy297⟩ : ∃ y_ : List (S30),y_ = (x4_1 ++ [(⟨x289000_2,x289001_2⟩ : S30)]):=⟨_,rfl⟩
         replace H : (garmentref14_wrap.l0 k2 l0 y297 (wrap64 (x5_1 + 1)) x289000_2 x289001_2) = some r:=by first|(rw [hy297];with_reducible exact H)|(have H2_:=(Option.bind_some _ _).symm.trans H;rw [hy297];with_reducible exact H2_)|(have H2_:=(Option.bind_some _ _).symm.trans H;with_reducible exact H2_)|with_reducible exact H|(rw [hy297];exact H)|exact H
         have Ny297:=Aside0.mk hy297
         clear hy297
         have H':=Aside0.mk H
         clear H
         try go_wp2
         have n0_:=Aside0.mk (rd_ HO_4.out)
         have n1_:=Aside0.mk (kd_ BK284.out)
         have n2_:=Aside0.mk (kd_ BK288.out)
         have n3_:=Aside0.mk (bd_ HB.out)
         clear HO_4
         clear BK284
         clear BK288
         clear HB
         have HO_4:=n0_
         have BK284:=n1_
         have BK288:=n2_
         have HB:=n3_
         clear n0_ n1_ n2_ n3_
         obtain ⟨Ao49,co49,eo49⟩:=Kd.R_slice HO_4.out
         (first|subst eo49|(injection eo49 with f1_ f2_ f3_;have f4_:=f1_.symm;have f5_:=f3_.symm;clear f1_ f2_ f3_;subst f4_;subst f5_))
         have p296 : 0 ≤ (0 : Int):=(by omega)
         have q296 : 0 < (x4_1.length : Int):=of_decide_eq_true (by first|(with_reducible assumption)|assumption)
         obtain ⟨ad296,e296,hx296_0,hx296_1⟩:=at_T30 (Kd.R_reads' HO_4.out).2.2 0 p296 q296
         cases e296
         have qi296 : (0 < x4_1.length) = True:=eq_true (by omega)
         (try rw [show ((0 : Int)).toNat = 0 from rfl] at hx296_0)
         (try rw [show 0 * 2 = 0 from rfl] at hx296_0)
         (try rw [Addr.add_zero'] at hx296_0)
         (try rw [show ((0 : Int)).toNat = 0 from rfl] at hx296_1)
         (try rw [show 0 * 2 = 0 from rfl] at hx296_1)
         (try rw [Addr.add_zero'] at hx296_1)
         replace p296:=eq_true p296
         replace q296:=eq_true q296
         refine start_ (n:=10) (S:=fun w'=>w'.cell? ⟨gb288,0,none⟩ = some (.int .i64 x289000_2)∧w'.cell? ⟨gb288,1,none⟩ = some (.int .i64 x289001_2)∧w'.cell? ⟨gb284,0,none⟩ = some (.int .i64 x285000_1)∧w'.cell? ⟨gb284,1,none⟩ = some (.int .i64 x285001_1)∧w'.cell? ad296 = some (.int .i64 ((rd_T30 x4_1 0).f0))∧w'.cell? ⟨ad296.block,ad296.off + 1,none⟩ = some (.int .i64 ((rd_T30 x4_1 0).f1))) (ds:=[]) #[false,false,false,false,false,false,false,false,false,false] (by kernel_rfl) rfl rfl ⟨(blk_cell BK288.out 0).trans rfl,(blk_cell BK288.out 1).trans rfl,(blk_cell BK284.out 0).trans rfl,(blk_cell BK284.out 1).trans rfl,hx296_0,hx296_1⟩ (fun hHeld=>?_);refine with_tabW garmentref14_wrap.tab15 garmentref14_wrap.bits15 (fun HT_ HW_=>?_)
         generalize wr.drew = w48 at HO_4 BK284 BK288 HB hx296_0 hx296_1 hHeld ⊢
         refine pure_ (i:=1) (N:=some 74) (v:=?_) (a':=?_) #[false,true,false,false,false,false,false,false,false,false] rfl rfl (any_of HT_.out (by kernel_rfl)) (fun _ _ _ h=>h) (Or.inl ⟨by rfl,?_⟩) ?_ ?_
         rotate_left
         ·
          intro w'
          go_simp
          with_reducible rfl
         rotate_left
         ·
          simp only [Act.put,la_,l0_,l1_,i64_w,i32_w]
          rfl
         refine pure_ (i:=2) (N:=some 75) (v:=?_) (a':=?_) #[false,true,true,false,false,false,false,false,false,false] rfl rfl (any_of HT_.out (by kernel_rfl)) (fun _ _ _ h=>h) (Or.inl ⟨by rfl,?_⟩) ?_ ?_
         rotate_left
         ·
          intro w'
          go_simp
          with_reducible rfl
         rotate_left
         ·
          simp only [Act.put,la_,l0_,l1_,i64_w,i32_w]
          rfl
         refine take_ (i:=0) (N:=some 73) (v:=?_) (a':=?_) #[true,true,true,false,false,false,false,false,false,false] rfl rfl (take_ofW HT_.out HW_.out (by kernel_rfl)) (fun _ _ _ h=>h) (Or.inl ⟨by rfl,?_⟩) hHeld ?_ ?_
         rotate_left
         ·
          rintro w' ⟨s0,s1,s2,s3,s4,s5⟩
          go_simp
          with_reducible rfl
         rotate_left
         ·
          simp only [Act.put,la_,l0_,l1_,i64_w,i32_w]
          rfl
         refine take_ (i:=3) (N:=some 76) (v:=?_) (a':=?_) #[true,true,true,true,false,false,false,false,false,false] rfl rfl (take_ofW HT_.out HW_.out (by kernel_rfl)) (fun _ _ _ h=>h) (Or.inl ⟨by rfl,?_⟩) hHeld ?_ ?_
         rotate_left
         ·
          rintro w' ⟨s0,s1,s2,s3,s4,s5⟩
          go_simp
          with_reducible rfl
         rotate_left
         ·
          simp only [Act.put,la_,l0_,l1_,i64_w,i32_w]
          rfl
         refine pure_ (i:=4) (N:=some 77) (v:=?_) (a':=?_) #[true,true,true,true,true,false,false,false,false,false] rfl rfl (any_of HT_.out (by kernel_rfl)) (fun _ _ _ h=>h) (Or.inl ⟨by rfl,?_⟩) ?_ ?_
         rotate_left
         ·
          intro w'
          go_simp
          with_reducible rfl
         rotate_left
         ·
          simp only [Act.put,la_,l0_,l1_,i64_w,i32_w]
          rfl
         refine pure_ (i:=5) (N:=some 78) (v:=?_) (a':=?_) #[true,true,true,true,true,true,false,false,false,false] rfl rfl (any_of HT_.out (by kernel_rfl)) (fun _ _ _ h=>h) (Or.inl ⟨by rfl,?_⟩) ?_ ?_
         rotate_left
         ·
          intro w'
          go_simp
          with_reducible rfl
         rotate_left
         ·
          simp only [Act.put,la_,l0_,l1_,i64_w,i32_w]
          rfl
         refine take_ (i:=6) (N:=some 79) (v:=?_) (a':=?_) #[true,true,true,true,true,true,true,false,false,false] rfl rfl (take_ofW HT_.out HW_.out (by kernel_rfl)) (fun _ _ _ h=>h) (Or.inl ⟨by rfl,?_⟩) hHeld ?_ ?_
         rotate_left
         ·
          rintro w' ⟨s0,s1,s2,s3,s4,s5⟩
          go_simp
          with_reducible rfl
         rotate_left
         ·
          simp only [Act.put,la_,l0_,l1_,i64_w,i32_w]
          rfl
         refine take_ (i:=7) (N:=some 80) (v:=?_) (a':=?_) #[true,true,true,true,true,true,true,true,false,false] rfl rfl (take_ofW HT_.out HW_.out (by kernel_rfl)) (fun _ _ _ h=>h) (Or.inl ⟨by rfl,?_⟩) hHeld ?_ ?_
         rotate_left
         ·
          rintro w' ⟨s0,s1,s2,s3,s4,s5⟩
          go_simp
          with_reducible rfl
         rotate_left
         ·
          simp only [Act.put,la_,l0_,l1_,i64_w,i32_w]
          rfl
         refine pure_ (i:=8) (N:=some 81) (v:=?_) (a':=?_) #[true,true,true,true,true,true,true,true,true,false] rfl rfl (any_of HT_.out (by kernel_rfl)) (fun _ _ _ h=>h) (Or.inl ⟨by rfl,?_⟩) ?_ ?_
         rotate_left
         ·
          intro w'
          go_simp
          with_reducible rfl
         rotate_left
         ·
          simp only [Act.put,la_,l0_,l1_,i64_w,i32_w]
          rfl
         refine pure_ (i:=9) (N:=some 82) (v:=?_) (a':=?_) #[true,true,true,true,true,true,true,true,true,true] rfl rfl (any_of HT_.out (by kernel_rfl)) (fun _ _ _ h=>h) (Or.inl ⟨by rfl,?_⟩) ?_ ?_
         rotate_left
         ·
          intro w'
          go_simp
          with_reducible rfl
         rotate_left
         ·
          simp only [Act.put,la_,l0_,l1_,i64_w,i32_w]
          rfl
         refine done_ (done_of HT_.out (by kernel_rfl)) ?_
         have hnb50:=NB288_284.out
         have hnc50:=NB284_288.out
         have hcz51_0 : w48.cell? ⟨gb288,0,none⟩ = some (.int .i64 x289000_2):=(blk_cell BK288.out 0).trans rfl
         have hcz51_1 : w48.cell? ⟨gb288,1,none⟩ = some (.int .i64 x289001_2):=(blk_cell BK288.out 1).trans rfl
         have hfz51_0:=blk_frozen BK288.out 0
         have hfz51_1:=blk_frozen BK288.out 1
         try go_wp2_with (first|((with_reducible refine gate_builtin (b:=.append) (xs:=#[.tmp 84,.tmp 86]) rfl ?_);at_builtin;refine Kd.R_append k30 (w0:=w) w.heap.size rfl (.tmp 84) (.tmp 86) 22 30 (.agg #[(.int .i64 0),(.int .i64 0)]) 16 rfl Try.underlying22 info30 rfl (by decide) (by omega) (.slice (some ad296) x4_1.length co49) x4_1 (⟨x289000_2,x289001_2⟩ : S30) [.int .i64 x289000_2,.int .i64 x289001_2] (fun k_=>k_ ≠ gb284∧k_ ≠ gb288) (fun _=>False) rfl rfl ?aP (fun _ hk=>hk.elim) ?aF ?aO ?aB ?aS ?aL ?_;(case aP=>exact k30_mkM _ _ _ (⟨x289000_2,x289001_2⟩ : S30));(case aB=>exact (by repeat (first|(with_reducible first|exact HB.out|apply ba_|apply bn_|apply bd_|refine below_set ?_ GE284.out|refine below_set ?_ GE288.out)|exact HB.out)));(case aF=>exact (fun k_ hk=>⟨Kd.freshB (g:=gb284) (o:=.cells #[.int .i64 x285000_1,.int .i64 x285001_1] 30 (0,0)) (by (with_reducible repeat (first|refine kn_ ?_ _|refine kd_ ?_|refine ka_ ?_ _));exact BK284.out) k_ hk,Kd.freshB (g:=gb288) (o:=.cells #[.int .i64 x289000_2,.int .i64 x289001_2] 30 (0,0)) (by (with_reducible repeat (first|refine kn_ ?_ _|refine kd_ ?_|refine ka_ ?_ _));exact BK288.out) k_ hk⟩));(case aO=>exact (by (with_reducible repeat (first|apply ra_|apply rn_|apply rd_));exact HO_4.out));(case aS=>exact (below_size (by repeat (first|(with_reducible first|exact HB.out|apply ba_|apply bn_|apply bd_|refine below_set ?_ GE284.out|refine below_set ?_ GE288.out)|exact HB.out))));(case aL=>have:=LMc47.out;omega);intro v298 w52 ho hb hg hat;rw [← Ny297.out] at ho;have n0_:=Aside0.mk (blk_grown (g:=gb284) (o:=.cells #[.int .i64 x285000_1,.int .i64 x285001_1] 30 (0,0)) (by (with_reducible repeat (first|refine kn_ ?_ _|refine kd_ ?_|refine ka_ ?_ _));exact BK284.out) hg (Kd.R_away HO_4.out (fun _ hk=>hk.1)));have n1_:=Aside0.mk (blk_grown (g:=gb288) (o:=.cells #[.int .i64 x289000_2,.int .i64 x289001_2] 30 (0,0)) (by (with_reducible repeat (first|refine kn_ ?_ _|refine kd_ ?_|refine ka_ ?_ _));exact BK288.out) hg (Kd.R_away HO_4.out (fun _ hk=>hk.2)));have n2_:=Aside0.mk (hb);have n3_:=Aside0.mk (ho);clear BK284;clear BK288;clear HB;clear HO_4;have BK284:=n0_;have BK288:=n1_;have HB:=n2_;have HO299:=n3_;clear n0_ n1_ n2_ n3_;clear ho hb hg hat;have hcz53_0 : w52.cell? ⟨gb288,0,none⟩ = some (.int .i64 x289000_2):=(blk_cell BK288.out 0).trans rfl;have hcz53_1 : w52.cell? ⟨gb288,1,none⟩ = some (.int .i64 x289001_2):=(blk_cell BK288.out 1).trans rfl;have hfz53_0:=blk_frozen BK288.out 0;have hfz53_1:=blk_frozen BK288.out 1;have hcz54_0 : w52.cell? ⟨gb284,0,none⟩ = some (.int .i64 x285000_1):=(blk_cell BK284.out 0).trans rfl;have hcz54_1 : w52.cell? ⟨gb284,1,none⟩ = some (.int .i64 x285001_1):=(blk_cell BK284.out 1).trans rfl;have hfz54_0:=blk_frozen BK284.out 0;have hfz54_1:=blk_frozen BK284.out 1))
         go_roundg k2
         case measure=>have:=HK1.out;have:=HK2.out;omega
         case rel=>exact ⟨(y297),(wrap64 (x5_1 + 1)),(x289000_2),(x289001_2),(by first|rfl|(simp;done)|(simp [*];done)),H',⟨by have:=HK1.out;have:=HK2.out;omega⟩,⟨by (with_reducible repeat (first|apply ra_|apply rn_|apply rd_));exact Kd.R_mono (Kd.R_far (p:=⟨gb284,1,none⟩) (Kd.R_far (p:=⟨gb284,0,none⟩) (Kd.R_mono HO299.out (fun k_ hk=>(⟨hk,hk.1⟩ : _∧k_ ≠ gb284))) (fun _ hk=>hk.2) (.int .i64 x289000_2)) (fun _ hk=>hk.2) (.int .i64 x289001_2)) (fun _ hk=>hk.1.1)⟩,⟨by (with_reducible repeat (first|refine kn_ ?_ _|refine kd_ ?_|refine ka_ ?_ _));refine blk_put (cs:=#[.int .i64 x289000_2,.int .i64 x285001_1]) ?_ 1 _ rfl;(with_reducible repeat (first|refine kn_ ?_ _|refine kd_ ?_|refine ka_ ?_ _));refine blk_put (cs:=#[.int .i64 x285000_1,.int .i64 x285001_1]) ?_ 0 _ rfl;(with_reducible repeat (first|refine kn_ ?_ _|refine kd_ ?_|refine ka_ ?_ _));exact BK284.out⟩,⟨by repeat (first|(with_reducible first|exact HB.out|apply ba_|apply bn_|apply bd_|refine below_set ?_ GE284.out|refine below_set ?_ GE288.out)|exact HB.out)⟩⟩
        rw [if_neg c47] at H
        exact absurd H (by simp)
       rw [if_neg c40] at H
       exact absurd H (by simp)
    rw [if_neg c11] at H
    have c11b0 : decide (x5_1 < (l0.length : Int)) = false:=decide_eq_false c11
    clear c11
    obtain rfl:=Option.some.inj H
    go_wp2
    go_ret
    exact ⟨_,by first|rfl|(simp [errW_none,errW_some] <;> rfl)|(simp [*,errW_none,errW_some] <;> rfl),by (with_reducible repeat (first|apply ra_|apply rn_|apply rd_));exact Kd.R_mono HO_4.out (fun _ hk=>trivial),by repeat (first|(with_reducible first|exact HB.out|apply ba_|apply bn_|apply bd_|refine below_set ?_ GE284.out)|exact HB.out)⟩
 rw [if_neg c4] at H
 exact absurd H (by simp)

end Go.Proofs.Ytlnigbhimdphoaa.C
