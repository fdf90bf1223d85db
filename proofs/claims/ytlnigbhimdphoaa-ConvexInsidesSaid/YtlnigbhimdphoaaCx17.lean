-- PRINTED by print.py (a twelfth state) out of the translation. Not trusted: Lean checks it.
import Derived.Test.YtlnigbhimdphoaaCx0
import Derived.Test.YtlnigbhimdphoaaCx16
namespace Go.Proofs.Ytlnigbhimdphoaa.C
open Go.RowKit Go.Proofs.YtlnigbhimdphoaaW.PrintWords Go.Proofs.YtlnigbhimdphoaaW.PrintLast Go.Proofs.YtlnigbhimdphoaaW.PrintMore
attribute [local go_sem] max2_int min2_int max_two min_two max_three min_three max_four min_four Go.Proofs.Ytlnigbhimdphoaa.Aid.isSome_setCell   -- for this text's walks alone
set_option linter.unusedVariables false
set_option linter.unusedSimpArgs false

/-! ### garmentref14_Support: function 19 -/
def garmentref14_Support.l0 : Nat → List (S30) → Int → Int → Int → Int → Option (Int)
 | 0,_,_,_,_,_=>none
 | k + 1,x0,x5,x6,x7,x8=>if x8 < (x0.length : Int) then (if 0 ≤ x8 then ((garmentref14_limited.f ((rd_T30 x0 x8).f0) 4194304).bind fun t336=>((garmentref14_limited.f ((rd_T30 x0 x8).f1) 4194304).bind fun t338=>(if x8 = 0 then (garmentref14_Support.l0 k x0 x5 x6 (wrap64 ((wrap64 (t336 * x5)) + (wrap64 (t338 * x6)))) (wrap64 (x8 + 1))) else (if (wrap64 ((wrap64 (t336 * x5)) + (wrap64 (t338 * x6)))) > x7 then (garmentref14_Support.l0 k x0 x5 x6 (wrap64 ((wrap64 (t336 * x5)) + (wrap64 (t338 * x6)))) (wrap64 (x8 + 1))) else (garmentref14_Support.l0 k x0 x5 x6 x7 (wrap64 (x8 + 1))))))) else (none)) else (some x7)
def garmentref14_Support.f (k : Nat) (l0 : List (S30)) (a1_0 : Int) (a1_1 : Int) : Option (Int):=(garmentref14_limited.f a1_0 1000).bind fun t333=>((garmentref14_limited.f a1_1 1000).bind fun t334=>(garmentref14_Support.l0 k l0 t333 t334 0 0))
theorem garmentref14_Support.mono_l : ∀ k,(∀ y0 y1 y2 y3 y4,LeO (garmentref14_Support.l0 k y0 y1 y2 y3 y4) (garmentref14_Support.l0 (k + 1) y0 y1 y2 y3 y4))
 | 0=>fun _ _ _ _ _ r h=>by simp [garmentref14_Support.l0] at h
 | k + 1=>by
  have ih0:=garmentref14_Support.mono_l k
  intro y0 y1 y2 y3 y4
  unfold garmentref14_Support.l0
  repeat' first
  | (with_reducible exact ih0 _ _ _ _ _)
  | (with_reducible exact LeO.refl _)
  | (with_reducible exact LeO.none _)
  | (with_reducible refine LeO.ite ?_ ?_)
  | (with_reducible refine LeO.bind ?_ (fun _=>?_))
  | exact ih0 _ _ _ _ _
  | exact LeO.none _
  | refine LeO.ite ?_ ?_
  | refine LeO.bind ?_ (fun _=>?_)
theorem garmentref14_Support.mono : ∀ a0 a1 a2 k,LeO (garmentref14_Support.f k a0 a1 a2) (garmentref14_Support.f (k + 1) a0 a1 a2):=by
 intro a0 a1 a2 k
 have ih0:=garmentref14_Support.mono_l k
 unfold garmentref14_Support.f
 repeat' first
   | (with_reducible exact ih0 _ _ _ _ _)
   | (with_reducible exact LeO.refl _)
   | (with_reducible exact LeO.none _)
   | (with_reducible refine LeO.ite ?_ ?_)
   | (with_reducible refine LeO.bind ?_ (fun _=>?_))
   | exact ih0 _ _ _ _ _
   | exact LeO.none _
   | refine LeO.ite ?_ ?_
   | refine LeO.bind ?_ (fun _=>?_)
def garmentref14_Support.T1 : Bool × List (List Nat × List Nat):=(true,[([],[]),([0],[0]),([1],[1]),([],[]),([3],[3]),([4,2],[4]),([2,5,0,1,2],[2]),([5,6,0,1,2,3,4,5,6],[5])])
def garmentref14_Support.B1 : List Nat:=[0,1,3,0,8,31,63,127]
theorem garmentref14_Support.tab1 : rtab .any (opsOf Try.f19 1) = garmentref14_Support.T1:=by kernel_rfl
theorem garmentref14_Support.bits1 : waitsOk garmentref14_Support.T1.2 garmentref14_Support.B1 = true:=by kernel_rfl
def garmentref14_Support.T6 : Bool × List (List Nat × List Nat):=(true,[([],[]),([],[]),([0,1],[0,1]),([2],[2]),([3],[3]),([4],[4]),([],[]),([5,6],[5,6]),([],[]),([],[]),([8,9],[8,9]),([10],[10]),([11],[11]),([12,5],[12]),([],[]),([13,14],[13,14]),([7,15],[7,15]),([16,13,0,1,2,3,4,5,6,7,8,9,10,11,12,13,14,15,16],[16])])
def garmentref14_Support.B6 : List Nat:=[0,0,3,7,15,31,0,127,0,0,768,1792,3840,7999,0,32575,65535,131071]
theorem garmentref14_Support.tab6 : rtab .any (opsOf Try.f19 6) = garmentref14_Support.T6:=by kernel_rfl
theorem garmentref14_Support.bits6 : waitsOk garmentref14_Support.T6.2 garmentref14_Support.B6 = true:=by kernel_rfl
set_option maxHeartbeats 8000000 in
set_option maxRecDepth 100000 in
theorem garmentref14_Support.calls (k : Nat) (A0 : Option Addr) (c0 : Nat) (l0 : List (S30)) (a1_0 : Int) (a1_1 : Int) (r : Int) (w : World) (hr0 : Kd.C k30 w A0 l0.length l0) (hc0 : l0.length ≤ c0) (h : garmentref14_Support.f k l0 a1_0 a1_1 = some r) :
  Calls Try.prog 19 #[.slice A0 l0.length c0,.agg #[.int .i64 a1_0,.int .i64 a1_1]] w fun e w'=>e = .returned (.int .i64 r)∧Below w.heap.size w w':=by
 have hu30:=Try.underlying30
 have HR0:=Aside0.mk hr0
 have HC0:=Aside0.mk hc0
 clear hr0 hc0
 have HB:=Aside0.mk (Below.refl w.heap.size w)
 have H : ((garmentref14_limited.f a1_0 1000).bind fun t333=>((garmentref14_limited.f a1_1 1000).bind fun t334=>(garmentref14_Support.l0 k l0 t333 t334 0 0))) = some r:=h
 clear h
 replace H:=Option.bind_eq_some_iff.mp H
 obtain ⟨t333,A30,H⟩:=H
 replace H : ((garmentref14_limited.f a1_1 1000).bind fun t334=>(garmentref14_Support.l0 k l0 t333 t334 0 0)) = some r:=H
 have A3:=Aside0.mk A30
 clear A30
 replace H:=Option.bind_eq_some_iff.mp H
 obtain ⟨t334,A40,H⟩:=H
 replace H : (garmentref14_Support.l0 k l0 t333 t334 0 0) = some r:=H
 have A4:=Aside0.mk A40
 clear A40
 have H':=Aside0.mk H
 clear H
 go_enter Try.func19,Try.ntmps19
 try go_wp2_with (first|((with_reducible refine gate_dst (N:=3) rfl ?_);refine box_event ?hg (N:=3) ?hd (cs:=#[.int .i64 a1_0,.int .i64 a1_1]) (t:=30) ?hr ?_;(case hd=>rfl);(case hg=>rfl);(case hr=>first|(go_simp;done)|(go_simp;rfl));intro gb332 hg w5 hbox hb;have n0_:=Aside0.mk (below_step (by repeat (first|(with_reducible first|exact HB.out|apply ba_|apply bn_|apply bd_)|exact HB.out)) hb);have n1_:=Aside0.mk (hbox);have n2_:=Aside0.mk ((by rw [hg];exact (below_size (by repeat (first|(with_reducible first|exact HB.out|apply ba_|apply bn_|apply bd_)|exact HB.out))) : w.heap.size ≤ gb332));have n3_:=Aside0.mk ((by rw [hg];exact (below_size (by repeat (first|(with_reducible first|exact HB.out|apply ba_|apply bn_|apply bd_)|exact HB.out))) : w.heap.size ≤ gb332));clear HB;have HB:=n0_;have BK332:=n1_;have GW332:=n2_;have GE332:=n3_;clear n0_ n1_ n2_ n3_;clear hb hbox hg))
 have n0_:=Aside0.mk (kd_ BK332.out)
 have n1_:=Aside0.mk (bd_ HB.out)
 clear BK332
 clear HB
 have BK332:=n0_
 have HB:=n1_
 clear n0_ n1_
 refine start_ (n:=8) (S:=fun w'=>w'.cell? ⟨gb332,0,none⟩ = some (.int .i64 a1_0)∧w'.cell? ⟨gb332,1,none⟩ = some (.int .i64 a1_1)) (ds:=[]) #[false,false,false,false,false,false,false,false] (by kernel_rfl) rfl rfl ⟨(blk_cell BK332.out 0).trans rfl,(blk_cell BK332.out 1).trans rfl⟩ (fun hHeld=>?_);refine with_tabW garmentref14_Support.tab1 garmentref14_Support.bits1 (fun HT_ HW_=>?_)
 generalize w5.drew = w6 at BK332 HB hHeld ⊢
 refine pure_ (i:=0) (N:=some 10) (v:=?_) (a':=?_) #[true,false,false,false,false,false,false,false] rfl rfl (any_of HT_.out (by kernel_rfl)) (fun _ _ _ h=>h) (Or.inl ⟨by rfl,?_⟩) ?_ ?_
 rotate_left
 ·
  intro w'
  go_simp
  with_reducible rfl
 rotate_left
 ·
  simp only [Act.put,la_,l0_,l1_,i64_w,i32_w]
  rfl
 refine pure_ (i:=3) (N:=some 13) (v:=?_) (a':=?_) #[true,false,false,true,false,false,false,false] rfl rfl (any_of HT_.out (by kernel_rfl)) (fun _ _ _ h=>h) (Or.inl ⟨by rfl,?_⟩) ?_ ?_
 rotate_left
 ·
  intro w'
  go_simp
  with_reducible rfl
 rotate_left
 ·
  simp only [Act.put,la_,l0_,l1_,i64_w,i32_w]
  rfl
 refine take_ (i:=1) (N:=some 11) (v:=?_) (a':=?_) #[true,true,false,true,false,false,false,false] rfl rfl (take_ofW HT_.out HW_.out (by kernel_rfl)) (fun _ _ _ h=>h) (Or.inl ⟨by rfl,?_⟩) hHeld ?_ ?_
 rotate_left
 ·
  rintro w' ⟨s0,s1⟩
  go_simp
  with_reducible rfl
 rotate_left
 ·
  simp only [Act.put,la_,l0_,l1_,i64_w,i32_w]
  rfl
 refine take_ (i:=4) (N:=some 14) (v:=?_) (a':=?_) #[true,true,false,true,true,false,false,false] rfl rfl (take_ofW HT_.out HW_.out (by kernel_rfl)) (fun _ _ _ h=>h) (Or.inl ⟨by rfl,?_⟩) hHeld ?_ ?_
 rotate_left
 ·
  rintro w' ⟨s0,s1⟩
  go_simp
  with_reducible rfl
 rotate_left
 ·
  simp only [Act.put,la_,l0_,l1_,i64_w,i32_w]
  rfl
 refine one_ (i:=2) (N:=some 12) #[true,true,true,true,true,false,false,false] rfl rfl (one_of HT_.out (by kernel_rfl)) (by decide) (fun K hK=>?_)
 refine goes_ Try.func35 (by kernel_rfl) rfl #[.int .i64 a1_0,.int .i64 1000] (by rfl) rfl rfl (by (try simp only [List.map_toArray,List.map_cons,List.map_nil]);first|done|rfl|(simp only [List.length_drop,List.length_take];rfl)) ?_
 with_reducible refine (garmentref14_limited.calls a1_0 1000 t333 _ A3.out).mono ?_
 rintro e w7 ⟨rfl,hb⟩
 refine ⟨_,rfl,?_⟩
 have n0_:=Aside0.mk (blk_below (g:=gb332) (o:=.cells #[.int .i64 a1_0,.int .i64 a1_1] 30 (0,0)) (by (with_reducible repeat (first|refine kn_ ?_ _|refine kd_ ?_|refine ka_ ?_ _));exact BK332.out) hb)
 have n1_:=Aside0.mk (below_step (by repeat (first|(with_reducible first|exact HB.out|apply ba_|apply bn_|apply bd_|refine below_set ?_ GE332.out)|exact HB.out)) hb)
 clear BK332
 clear HB
 have BK332:=n0_
 have HB:=n1_
 clear n0_ n1_
 (try clear hb)
 (try clear hb2)
 (try clear hk)
 (try clear hi)
 refine hK.out _ _ ⟨(blk_cell BK332.out 0).trans rfl,(blk_cell BK332.out 1).trans rfl⟩ (fun hHeld=>?_)
 clear hK K
 refine norm_ (a':=?_) ?_ ?_
 rotate_left
 ·
  show Act.put _ (some 12) _ = _
  simp only [Act.put,la_,l0_,l1_,i64_w,i32_w]
  rfl
 refine one_ (i:=5) (N:=some 15) #[true,true,true,true,true,true,false,false] rfl rfl (one_of HT_.out (by kernel_rfl)) (by decide) (fun K hK=>?_)
 refine goes_ Try.func35 (by kernel_rfl) rfl #[.int .i64 a1_1,.int .i64 1000] (by rfl) rfl rfl (by (try simp only [List.map_toArray,List.map_cons,List.map_nil]);first|done|rfl|(simp only [List.length_drop,List.length_take];rfl)) ?_
 with_reducible refine (garmentref14_limited.calls a1_1 1000 t334 _ A4.out).mono ?_
 rintro e w8 ⟨rfl,hb⟩
 refine ⟨_,rfl,?_⟩
 have n0_:=Aside0.mk (blk_below (g:=gb332) (o:=.cells #[.int .i64 a1_0,.int .i64 a1_1] 30 (0,0)) (by (with_reducible repeat (first|refine kn_ ?_ _|refine kd_ ?_|refine ka_ ?_ _));exact BK332.out) hb)
 have n1_:=Aside0.mk (below_step (by repeat (first|(with_reducible first|exact HB.out|apply ba_|apply bn_|apply bd_|refine below_set ?_ GE332.out)|exact HB.out)) hb)
 clear BK332
 clear HB
 have BK332:=n0_
 have HB:=n1_
 clear n0_ n1_
 (try clear hb)
 (try clear hb2)
 (try clear hk)
 (try clear hi)
 refine hK.out _ _ ⟨(blk_cell BK332.out 0).trans rfl,(blk_cell BK332.out 1).trans rfl⟩ (fun hHeld=>?_)
 clear hK K
 refine norm_ (a':=?_) ?_ ?_
 rotate_left
 ·
  show Act.put _ (some 15) _ = _
  simp only [Act.put,la_,l0_,l1_,i64_w,i32_w]
  rfl
 refine pure_ (i:=6) (N:=some 5) (v:=?_) (a':=?_) #[true,true,true,true,true,true,true,false] rfl rfl (any_of HT_.out (by kernel_rfl)) (fun _ _ _ h=>h) (Or.inl ⟨by rfl,?_⟩) ?_ ?_
 rotate_left
 ·
  intro w'
  go_simp
  with_reducible rfl
 rotate_left
 ·
  simp only [Act.put,la_,l0_,l1_,i64_w,i32_w]
  rfl
 refine pure_ (i:=7) (N:=some 6) (v:=?_) (a':=?_) #[true,true,true,true,true,true,true,true] rfl rfl (any_of HT_.out (by kernel_rfl)) (fun _ _ _ h=>h) (Or.inl ⟨by rfl,?_⟩) ?_ ?_
 rotate_left
 ·
  intro w'
  go_simp
  with_reducible rfl
 rotate_left
 ·
  simp only [Act.put,la_,l0_,l1_,i64_w,i32_w]
  rfl
 refine done_ (done_of HT_.out (by kernel_rfl)) ?_
 try go_wp2
 go_loopg [7,8] k (fun kq v7 v8 w'=>∃ (x7_1 : Int) (x8_1 : Int),v7 = .int .i64 x7_1∧v8 = .int .i64 x8_1∧Aside0 (garmentref14_Support.l0 kq l0 t333 t334 x7_1 x8_1 = some r)∧Aside0 (kq ≤ k)∧Aside0 (w'.heap[gb332]? = some (.cells #[.int .i64 a1_0,.int .i64 a1_1] 30 (0,0)))∧Aside0 (Below w.heap.size w w'))
 case atStart=>exact ⟨(0),(0),(by first|rfl|(simp;done)|(simp [*];done)),(by first|rfl|(simp;done)|(simp [*];done)),H',⟨Nat.le_refl _⟩,⟨by (with_reducible repeat (first|refine kn_ ?_ _|refine kd_ ?_|refine ka_ ?_ _));exact BK332.out⟩,⟨by repeat (first|(with_reducible first|exact HB.out|apply ba_|apply bn_|apply bd_|refine below_set ?_ GE332.out)|exact HB.out)⟩⟩
 case round =>
  clear H'
  try clear c1
  try clear p2
  try clear c3
  obtain ⟨x7_1,x8_1,rfl,rfl,HA,HK1,BK332,HB⟩:=hrel
  cases gk with
  | zero=>exact absurd HA.out (by simp [garmentref14_Support.l0])
  | succ k1 =>
   have H:=HA.out
   clear HA
   simp only [garmentref14_Support.l0] at H
   by_cases c9 : x8_1 < (l0.length : Int)
   ·
    rw [if_pos c9] at H
    have c9b0 : decide (x8_1 < (l0.length : Int)) = true:=decide_eq_true c9
    clear c9
    by_cases c10 : 0 ≤ x8_1
    ·
     rw [if_pos c10] at H
     have c10b0 : decide (0 ≤ x8_1) = true:=decide_eq_true c10
     clear c10
     replace H:=Option.bind_eq_some_iff.mp H
     obtain ⟨t336,A110,H⟩:=H
     replace H : ((garmentref14_limited.f ((rd_T30 l0 x8_1).f1) 4194304).bind fun t338=>(if x8_1 = 0 then (garmentref14_Support.l0 k1 l0 t333 t334 (wrap64 ((wrap64 (t336 * t333)) + (wrap64 (t338 * t334)))) (wrap64 (x8_1 + 1))) else (if (wrap64 ((wrap64 (t336 * t333)) + (wrap64 (t338 * t334)))) > x7_1 then (garmentref14_Support.l0 k1 l0 t333 t334 (wrap64 ((wrap64 (t336 * t333)) + (wrap64 (t338 * t334)))) (wrap64 (x8_1 + 1))) else (garmentref14_Support.l0 k1 l0 t333 t334 x7_1 (wrap64 (x8_1 + 1)))))) = some r:=H
     have A11:=Aside0.mk A110
     clear A110
     replace H:=Option.bind_eq_some_iff.mp H
     obtain ⟨t338,A120,H⟩:=H
     replace H : (if x8_1 = 0 then (garmentref14_Support.l0 k1 l0 t333 t334 (wrap64 ((wrap64 (t336 * t333)) + (wrap64 (t338 * t334)))) (wrap64 (x8_1 + 1))) else (if (wrap64 ((wrap64 (t336 * t333)) + (wrap64 (t338 * t334)))) > x7_1 then (garmentref14_Support.l0 k1 l0 t333 t334 (wrap64 ((wrap64 (t336 * t333)) + (wrap64 (t338 * t334)))) (wrap64 (x8_1 + 1))) else (garmentref14_Support.l0 k1 l0 t333 t334 x7_1 (wrap64 (x8_1 + 1))))) = some r:=H
     have A12:=Aside0.mk A120
     clear A120
     by_cases c13 : x8_1 = 0
     ·
      rw [if_pos c13] at H
      have c13b0 : (x8_1 == 0) = true:=beq_iff_eq.mpr c13
      have c13b1 : (x8_1 != 0) = false:=bne_eq_false_iff_eq.mpr c13
      clear c13
      have H':=Aside0.mk H
      clear H
      try go_wp2
      have n0_:=Aside0.mk (kd_ BK332.out)
      have n1_:=Aside0.mk (bd_ HB.out)
      clear BK332
      clear HB
      have BK332:=n0_
      have HB:=n1_
      clear n0_ n1_
      have p335 : 0 ≤ (x8_1 : Int):=of_decide_eq_true (by first|(with_reducible assumption)|assumption)
      have q335 : x8_1 < (l0.length : Int):=of_decide_eq_true (by first|(with_reducible assumption)|assumption)
      obtain ⟨ad335,e335,hx335_0,hx335_1⟩:=at_T30 HR0.out x8_1 p335 q335
      have hw335_1:=hx335_1
      have hw335_0:=hx335_0
      cases e335
      replace hx335_0:=(HB.out.cell (bl_ w _ hx335_0)).trans hx335_0
      replace hx335_1:=(HB.out.cell (bl_ w _ hx335_1)).trans hx335_1
      replace p335:=eq_true p335
      replace q335:=eq_true q335
      have p337 : 0 ≤ (x8_1 : Int):=of_decide_eq_true (by first|(with_reducible assumption)|assumption)
      have q337 : x8_1 < (l0.length : Int):=of_decide_eq_true (by first|(with_reducible assumption)|assumption)
      obtain ⟨ad337,e337,hx337_0,hx337_1⟩:=at_T30 HR0.out x8_1 p337 q337
      have hw337_1:=hx337_1
      have hw337_0:=hx337_0
      obtain rfl : ad335 = ad337:=(by injection e337)
      replace hx337_0:=(HB.out.cell (bl_ w _ hx337_0)).trans hx337_0
      replace hx337_1:=(HB.out.cell (bl_ w _ hx337_1)).trans hx337_1
      replace p337:=eq_true p337
      replace q337:=eq_true q337
      refine start_ (n:=18) (S:=fun w'=>w'.cell? (ad335.add ((x8_1).toNat * 2)) = some (.int .i64 ((rd_T30 l0 x8_1).f0))∧w'.cell? ⟨(ad335.add ((x8_1).toNat * 2)).block,(ad335.add ((x8_1).toNat * 2)).off + 1,none⟩ = some (.int .i64 ((rd_T30 l0 x8_1).f1))∧w'.cell? (ad335.add ((x8_1).toNat * 2)) = some (.int .i64 ((rd_T30 l0 x8_1).f0))∧w'.cell? ⟨(ad335.add ((x8_1).toNat * 2)).block,(ad335.add ((x8_1).toNat * 2)).off + 1,none⟩ = some (.int .i64 ((rd_T30 l0 x8_1).f1))) (ds:=[]) #[false,false,false,false,false,false,false,false,false,false,false,false,false,false,false,false,false,false] (by kernel_rfl) rfl rfl ⟨((HB.out.cell (bl_ w _ hw335_0)).trans hw335_0),((HB.out.cell (bl_ w _ hw335_1)).trans hw335_1),((HB.out.cell (bl_ w _ hw337_0)).trans hw337_0),((HB.out.cell (bl_ w _ hw337_1)).trans hw337_1)⟩ (fun hHeld=>?_);refine with_tabW garmentref14_Support.tab6 garmentref14_Support.bits6 (fun HT_ HW_=>?_)
      generalize wr.drew = w14 at BK332 HB hx335_0 hx335_1 hx337_0 hx337_1 hHeld ⊢
      refine pure_ (i:=0) (N:=some 22) (v:=?_) (a':=?_) #[true,false,false,false,false,false,false,false,false,false,false,false,false,false,false,false,false,false] rfl rfl (any_of HT_.out (by kernel_rfl)) (fun _ _ _ h=>h) (Or.inl ⟨by rfl,?_⟩) ?_ ?_
      rotate_left
      ·
       intro w'
       go_simp
       with_reducible rfl
      rotate_left
      ·
       simp only [Act.put,la_,l0_,l1_,i64_w,i32_w]
       rfl
      refine pure_ (i:=1) (N:=some 23) (v:=?_) (a':=?_) #[true,true,false,false,false,false,false,false,false,false,false,false,false,false,false,false,false,false] rfl rfl (any_of HT_.out (by kernel_rfl)) (fun _ _ _ h=>h) (Or.inl ⟨by rfl,?_⟩) ?_ ?_
      rotate_left
      ·
       intro w'
       go_simp
       with_reducible rfl
      rotate_left
      ·
       simp only [Act.put,la_,l0_,l1_,i64_w,i32_w]
       rfl
      refine pure_ (i:=2) (N:=some 24) (v:=?_) (a':=?_) #[true,true,true,false,false,false,false,false,false,false,false,false,false,false,false,false,false,false] rfl rfl (any_of HT_.out (by kernel_rfl)) (fun _ _ _ h=>h) (Or.inl ⟨by rfl,?_⟩) ?_ ?_
      rotate_left
      ·
       intro w'
       go_simp
       with_reducible rfl
      rotate_left
      ·
       simp only [Act.put,la_,l0_,l1_,i64_w,i32_w]
       rfl
      refine pure_ (i:=3) (N:=some 25) (v:=?_) (a':=?_) #[true,true,true,true,false,false,false,false,false,false,false,false,false,false,false,false,false,false] rfl rfl (any_of HT_.out (by kernel_rfl)) (fun _ _ _ h=>h) (Or.inl ⟨by rfl,?_⟩) ?_ ?_
      rotate_left
      ·
       intro w'
       go_simp
       with_reducible rfl
      rotate_left
      ·
       simp only [Act.put,la_,l0_,l1_,i64_w,i32_w]
       rfl
      refine pure_ (i:=6) (N:=some 28) (v:=?_) (a':=?_) #[true,true,true,true,false,false,true,false,false,false,false,false,false,false,false,false,false,false] rfl rfl (any_of HT_.out (by kernel_rfl)) (fun _ _ _ h=>h) (Or.inl ⟨by rfl,?_⟩) ?_ ?_
      rotate_left
      ·
       intro w'
       go_simp
       with_reducible rfl
      rotate_left
      ·
       simp only [Act.put,la_,l0_,l1_,i64_w,i32_w]
       rfl
      refine pure_ (i:=8) (N:=some 30) (v:=?_) (a':=?_) #[true,true,true,true,false,false,true,false,true,false,false,false,false,false,false,false,false,false] rfl rfl (any_of HT_.out (by kernel_rfl)) (fun _ _ _ h=>h) (Or.inl ⟨by rfl,?_⟩) ?_ ?_
      rotate_left
      ·
       intro w'
       go_simp
       with_reducible rfl
      rotate_left
      ·
       simp only [Act.put,la_,l0_,l1_,i64_w,i32_w]
       rfl
      refine pure_ (i:=9) (N:=some 31) (v:=?_) (a':=?_) #[true,true,true,true,false,false,true,false,true,true,false,false,false,false,false,false,false,false] rfl rfl (any_of HT_.out (by kernel_rfl)) (fun _ _ _ h=>h) (Or.inl ⟨by rfl,?_⟩) ?_ ?_
      rotate_left
      ·
       intro w'
       go_simp
       with_reducible rfl
      rotate_left
      ·
       simp only [Act.put,la_,l0_,l1_,i64_w,i32_w]
       rfl
      refine pure_ (i:=10) (N:=some 32) (v:=?_) (a':=?_) #[true,true,true,true,false,false,true,false,true,true,true,false,false,false,false,false,false,false] rfl rfl (any_of HT_.out (by kernel_rfl)) (fun _ _ _ h=>h) (Or.inl ⟨by rfl,?_⟩) ?_ ?_
      rotate_left
      ·
       intro w'
       go_simp
       with_reducible rfl
      rotate_left
      ·
       simp only [Act.put,la_,l0_,l1_,i64_w,i32_w]
       rfl
      refine pure_ (i:=11) (N:=some 33) (v:=?_) (a':=?_) #[true,true,true,true,false,false,true,false,true,true,true,true,false,false,false,false,false,false] rfl rfl (any_of HT_.out (by kernel_rfl)) (fun _ _ _ h=>h) (Or.inl ⟨by rfl,?_⟩) ?_ ?_
      rotate_left
      ·
       intro w'
       go_simp
       with_reducible rfl
      rotate_left
      ·
       simp only [Act.put,la_,l0_,l1_,i64_w,i32_w]
       rfl
      refine pure_ (i:=14) (N:=some 36) (v:=?_) (a':=?_) #[true,true,true,true,false,false,true,false,true,true,true,true,false,false,true,false,false,false] rfl rfl (any_of HT_.out (by kernel_rfl)) (fun _ _ _ h=>h) (Or.inl ⟨by rfl,?_⟩) ?_ ?_
      rotate_left
      ·
       intro w'
       go_simp
       with_reducible rfl
      rotate_left
      ·
       simp only [Act.put,la_,l0_,l1_,i64_w,i32_w]
       rfl
      refine take_ (i:=4) (N:=some 26) (v:=?_) (a':=?_) #[true,true,true,true,true,false,true,false,true,true,true,true,false,false,true,false,false,false] rfl rfl (take_ofW HT_.out HW_.out (by kernel_rfl)) (fun _ _ _ h=>h) (Or.inl ⟨by rfl,?_⟩) hHeld ?_ ?_
      rotate_left
      ·
       rintro w' ⟨s0,s1,s2,s3⟩
       go_simp
       with_reducible rfl
      rotate_left
      ·
       simp only [Act.put,la_,l0_,l1_,i64_w,i32_w]
       rfl
      refine take_ (i:=12) (N:=some 34) (v:=?_) (a':=?_) #[true,true,true,true,true,false,true,false,true,true,true,true,true,false,true,false,false,false] rfl rfl (take_ofW HT_.out HW_.out (by kernel_rfl)) (fun _ _ _ h=>h) (Or.inl ⟨by rfl,?_⟩) hHeld ?_ ?_
      rotate_left
      ·
       rintro w' ⟨s0,s1,s2,s3⟩
       go_simp
       with_reducible rfl
      rotate_left
      ·
       simp only [Act.put,la_,l0_,l1_,i64_w,i32_w]
       rfl
      refine one_ (i:=5) (N:=some 27) #[true,true,true,true,true,true,true,false,true,true,true,true,true,false,true,false,false,false] rfl rfl (one_of HT_.out (by kernel_rfl)) (by decide) (fun K hK=>?_)
      refine goes_ Try.func35 (by kernel_rfl) rfl #[.int .i64 ((rd_T30 l0 x8_1).f0),.int .i64 4194304] (by rfl) rfl rfl (by (try simp only [List.map_toArray,List.map_cons,List.map_nil]);first|done|rfl|(simp only [List.length_drop,List.length_take];rfl)) ?_
      with_reducible refine (garmentref14_limited.calls ((rd_T30 l0 x8_1).f0) 4194304 t336 _ A11.out).mono ?_
      rintro e w15 ⟨rfl,hb⟩
      refine ⟨_,rfl,?_⟩
      have n0_:=Aside0.mk (blk_below (g:=gb332) (o:=.cells #[.int .i64 a1_0,.int .i64 a1_1] 30 (0,0)) (by (with_reducible repeat (first|refine kn_ ?_ _|refine kd_ ?_|refine ka_ ?_ _));exact BK332.out) hb)
      have n1_:=Aside0.mk (below_step (by repeat (first|(with_reducible first|exact HB.out|apply ba_|apply bn_|apply bd_|refine below_set ?_ GE332.out)|exact HB.out)) hb)
      clear BK332
      clear HB
      have BK332:=n0_
      have HB:=n1_
      clear n0_ n1_
      (try clear hb)
      (try clear hb2)
      (try clear hk)
      (try clear hi)
      refine hK.out _ _ ⟨((HB.out.cell (bl_ w _ hw335_0)).trans hw335_0),((HB.out.cell (bl_ w _ hw335_1)).trans hw335_1),((HB.out.cell (bl_ w _ hw337_0)).trans hw337_0),((HB.out.cell (bl_ w _ hw337_1)).trans hw337_1)⟩ (fun hHeld=>?_)
      clear hK K
      refine norm_ (a':=?_) ?_ ?_
      rotate_left
      ·
       show Act.put _ (some 27) _ = _
       simp only [Act.put,la_,l0_,l1_,i64_w,i32_w]
       rfl
      refine pure_ (i:=7) (N:=some 29) (v:=?_) (a':=?_) #[true,true,true,true,true,true,true,true,true,true,true,true,true,false,true,false,false,false] rfl rfl (any_of HT_.out (by kernel_rfl)) (fun _ _ _ h=>h) (Or.inl ⟨by rfl,?_⟩) ?_ ?_
      rotate_left
      ·
       intro w'
       go_simp
       with_reducible rfl
      rotate_left
      ·
       simp only [Act.put,la_,l0_,l1_,i64_w,i32_w]
       rfl
      refine one_ (i:=13) (N:=some 35) #[true,true,true,true,true,true,true,true,true,true,true,true,true,true,true,false,false,false] rfl rfl (one_of HT_.out (by kernel_rfl)) (by decide) (fun K hK=>?_)
      refine goes_ Try.func35 (by kernel_rfl) rfl #[.int .i64 ((rd_T30 l0 x8_1).f1),.int .i64 4194304] (by rfl) rfl rfl (by (try simp only [List.map_toArray,List.map_cons,List.map_nil]);first|done|rfl|(simp only [List.length_drop,List.length_take];rfl)) ?_
      with_reducible refine (garmentref14_limited.calls ((rd_T30 l0 x8_1).f1) 4194304 t338 _ A12.out).mono ?_
      rintro e w16 ⟨rfl,hb⟩
      refine ⟨_,rfl,?_⟩
      have n0_:=Aside0.mk (blk_below (g:=gb332) (o:=.cells #[.int .i64 a1_0,.int .i64 a1_1] 30 (0,0)) (by (with_reducible repeat (first|refine kn_ ?_ _|refine kd_ ?_|refine ka_ ?_ _));exact BK332.out) hb)
      have n1_:=Aside0.mk (below_step (by repeat (first|(with_reducible first|exact HB.out|apply ba_|apply bn_|apply bd_|refine below_set ?_ GE332.out)|exact HB.out)) hb)
      clear BK332
      clear HB
      have BK332:=n0_
      have HB:=n1_
      clear n0_ n1_
      (try clear hb)
      (try clear hb2)
      (try clear hk)
      (try clear hi)
      refine hK.out _ _ ⟨((HB.out.cell (bl_ w _ hw335_0)).trans hw335_0),((HB.out.cell (bl_ w _ hw335_1)).trans hw335_1),((HB.out.cell (bl_ w _ hw337_0)).trans hw337_0),((HB.out.cell (bl_ w _ hw337_1)).trans hw337_1)⟩ (fun hHeld=>?_)
      clear hK K
      refine norm_ (a':=?_) ?_ ?_
      rotate_left
      ·
       show Act.put _ (some 35) _ = _
       simp only [Act.put,la_,l0_,l1_,i64_w,i32_w]
       rfl
      refine pure_ (i:=15) (N:=some 37) (v:=?_) (a':=?_) #[true,true,true,true,true,true,true,true,true,true,true,true,true,true,true,true,false,false] rfl rfl (any_of HT_.out (by kernel_rfl)) (fun _ _ _ h=>h) (Or.inl ⟨by rfl,?_⟩) ?_ ?_
      rotate_left
      ·
       intro w'
       go_simp
       with_reducible rfl
      rotate_left
      ·
       simp only [Act.put,la_,l0_,l1_,i64_w,i32_w]
       rfl
      refine pure_ (i:=16) (N:=some 38) (v:=?_) (a':=?_) #[true,true,true,true,true,true,true,true,true,true,true,true,true,true,true,true,true,false] rfl rfl (any_of HT_.out (by kernel_rfl)) (fun _ _ _ h=>h) (Or.inl ⟨by rfl,?_⟩) ?_ ?_
      rotate_left
      ·
       intro w'
       go_simp
       with_reducible rfl
      rotate_left
      ·
       simp only [Act.put,la_,l0_,l1_,i64_w,i32_w]
       rfl
      refine pure_ (i:=17) (N:=some 9) (v:=?_) (a':=?_) #[true,true,true,true,true,true,true,true,true,true,true,true,true,true,true,true,true,true] rfl rfl (any_of HT_.out (by kernel_rfl)) (fun _ _ _ h=>h) (Or.inl ⟨by rfl,?_⟩) ?_ ?_
      rotate_left
      ·
       intro w'
       go_simp
       with_reducible rfl
      rotate_left
      ·
       simp only [Act.put,la_,l0_,l1_,i64_w,i32_w]
       rfl
      refine done_ (done_of HT_.out (by kernel_rfl)) ?_
      try go_wp2
      go_roundg k1
      case measure=>have:=HK1.out;omega
      case rel=>exact ⟨(wrap64 ((wrap64 (t336 * t333)) + (wrap64 (t338 * t334)))),(wrap64 (x8_1 + 1)),(by first|rfl|(simp;done)|(simp [*];done)),(by first|rfl|(simp;done)|(simp [*];done)),H',⟨by have:=HK1.out;omega⟩,⟨by (with_reducible repeat (first|refine kn_ ?_ _|refine kd_ ?_|refine ka_ ?_ _));exact BK332.out⟩,⟨by repeat (first|(with_reducible first|exact HB.out|apply ba_|apply bn_|apply bd_|refine below_set ?_ GE332.out)|exact HB.out)⟩⟩
     rw [if_neg c13] at H
     have c13b0 : (x8_1 == 0) = false:=beq_eq_false_iff_ne.mpr c13
     have c13b1 : (x8_1 != 0) = true:=bne_iff_ne.mpr c13
     by_cases c17 : (wrap64 ((wrap64 (t336 * t333)) + (wrap64 (t338 * t334)))) > x7_1
     ·
      rw [if_pos c17] at H
      have c17b0 : decide (x7_1 < (wrap64 ((wrap64 (t336 * t333)) + (wrap64 (t338 * t334))))) = true:=decide_eq_true c17
      clear c17
      have H':=Aside0.mk H
      clear H
      try go_wp2
      have n0_:=Aside0.mk (kd_ BK332.out)
      have n1_:=Aside0.mk (bd_ HB.out)
      clear BK332
      clear HB
      have BK332:=n0_
      have HB:=n1_
      clear n0_ n1_
      have p335 : 0 ≤ (x8_1 : Int):=of_decide_eq_true (by first|(with_reducible assumption)|assumption)
      have q335 : x8_1 < (l0.length : Int):=of_decide_eq_true (by first|(with_reducible assumption)|assumption)
      obtain ⟨ad335,e335,hx335_0,hx335_1⟩:=at_T30 HR0.out x8_1 p335 q335
      have hw335_1:=hx335_1
      have hw335_0:=hx335_0
      cases e335
      replace hx335_0:=(HB.out.cell (bl_ w _ hx335_0)).trans hx335_0
      replace hx335_1:=(HB.out.cell (bl_ w _ hx335_1)).trans hx335_1
      replace p335:=eq_true p335
      replace q335:=eq_true q335
      have p337 : 0 ≤ (x8_1 : Int):=of_decide_eq_true (by first|(with_reducible assumption)|assumption)
      have q337 : x8_1 < (l0.length : Int):=of_decide_eq_true (by first|(with_reducible assumption)|assumption)
      obtain ⟨ad337,e337,hx337_0,hx337_1⟩:=at_T30 HR0.out x8_1 p337 q337
      have hw337_1:=hx337_1
      have hw337_0:=hx337_0
      obtain rfl : ad335 = ad337:=(by injection e337)
      replace hx337_0:=(HB.out.cell (bl_ w _ hx337_0)).trans hx337_0
      replace hx337_1:=(HB.out.cell (bl_ w _ hx337_1)).trans hx337_1
      replace p337:=eq_true p337
      replace q337:=eq_true q337
      refine start_ (n:=18) (S:=fun w'=>w'.cell? (ad335.add ((x8_1).toNat * 2)) = some (.int .i64 ((rd_T30 l0 x8_1).f0))∧w'.cell? ⟨(ad335.add ((x8_1).toNat * 2)).block,(ad335.add ((x8_1).toNat * 2)).off + 1,none⟩ = some (.int .i64 ((rd_T30 l0 x8_1).f1))∧w'.cell? (ad335.add ((x8_1).toNat * 2)) = some (.int .i64 ((rd_T30 l0 x8_1).f0))∧w'.cell? ⟨(ad335.add ((x8_1).toNat * 2)).block,(ad335.add ((x8_1).toNat * 2)).off + 1,none⟩ = some (.int .i64 ((rd_T30 l0 x8_1).f1))) (ds:=[]) #[false,false,false,false,false,false,false,false,false,false,false,false,false,false,false,false,false,false] (by kernel_rfl) rfl rfl ⟨((HB.out.cell (bl_ w _ hw335_0)).trans hw335_0),((HB.out.cell (bl_ w _ hw335_1)).trans hw335_1),((HB.out.cell (bl_ w _ hw337_0)).trans hw337_0),((HB.out.cell (bl_ w _ hw337_1)).trans hw337_1)⟩ (fun hHeld=>?_);refine with_tabW garmentref14_Support.tab6 garmentref14_Support.bits6 (fun HT_ HW_=>?_)
      generalize wr.drew = w18 at BK332 HB hx335_0 hx335_1 hx337_0 hx337_1 hHeld ⊢
      refine pure_ (i:=0) (N:=some 22) (v:=?_) (a':=?_) #[true,false,false,false,false,false,false,false,false,false,false,false,false,false,false,false,false,false] rfl rfl (any_of HT_.out (by kernel_rfl)) (fun _ _ _ h=>h) (Or.inl ⟨by rfl,?_⟩) ?_ ?_
      rotate_left
      ·
       intro w'
       go_simp
       with_reducible rfl
      rotate_left
      ·
       simp only [Act.put,la_,l0_,l1_,i64_w,i32_w]
       rfl
      refine pure_ (i:=1) (N:=some 23) (v:=?_) (a':=?_) #[true,true,false,false,false,false,false,false,false,false,false,false,false,false,false,false,false,false] rfl rfl (any_of HT_.out (by kernel_rfl)) (fun _ _ _ h=>h) (Or.inl ⟨by rfl,?_⟩) ?_ ?_
      rotate_left
      ·
       intro w'
       go_simp
       with_reducible rfl
      rotate_left
      ·
       simp only [Act.put,la_,l0_,l1_,i64_w,i32_w]
       rfl
      refine pure_ (i:=2) (N:=some 24) (v:=?_) (a':=?_) #[true,true,true,false,false,false,false,false,false,false,false,false,false,false,false,false,false,false] rfl rfl (any_of HT_.out (by kernel_rfl)) (fun _ _ _ h=>h) (Or.inl ⟨by rfl,?_⟩) ?_ ?_
      rotate_left
      ·
       intro w'
       go_simp
       with_reducible rfl
      rotate_left
      ·
       simp only [Act.put,la_,l0_,l1_,i64_w,i32_w]
       rfl
      refine pure_ (i:=3) (N:=some 25) (v:=?_) (a':=?_) #[true,true,true,true,false,false,false,false,false,false,false,false,false,false,false,false,false,false] rfl rfl (any_of HT_.out (by kernel_rfl)) (fun _ _ _ h=>h) (Or.inl ⟨by rfl,?_⟩) ?_ ?_
      rotate_left
      ·
       intro w'
       go_simp
       with_reducible rfl
      rotate_left
      ·
       simp only [Act.put,la_,l0_,l1_,i64_w,i32_w]
       rfl
      refine pure_ (i:=6) (N:=some 28) (v:=?_) (a':=?_) #[true,true,true,true,false,false,true,false,false,false,false,false,false,false,false,false,false,false] rfl rfl (any_of HT_.out (by kernel_rfl)) (fun _ _ _ h=>h) (Or.inl ⟨by rfl,?_⟩) ?_ ?_
      rotate_left
      ·
       intro w'
       go_simp
       with_reducible rfl
      rotate_left
      ·
       simp only [Act.put,la_,l0_,l1_,i64_w,i32_w]
       rfl
      refine pure_ (i:=8) (N:=some 30) (v:=?_) (a':=?_) #[true,true,true,true,false,false,true,false,true,false,false,false,false,false,false,false,false,false] rfl rfl (any_of HT_.out (by kernel_rfl)) (fun _ _ _ h=>h) (Or.inl ⟨by rfl,?_⟩) ?_ ?_
      rotate_left
      ·
       intro w'
       go_simp
       with_reducible rfl
      rotate_left
      ·
       simp only [Act.put,la_,l0_,l1_,i64_w,i32_w]
       rfl
      refine pure_ (i:=9) (N:=some 31) (v:=?_) (a':=?_) #[true,true,true,true,false,false,true,false,true,true,false,false,false,false,false,false,false,false] rfl rfl (any_of HT_.out (by kernel_rfl)) (fun _ _ _ h=>h) (Or.inl ⟨by rfl,?_⟩) ?_ ?_
      rotate_left
      ·
       intro w'
       go_simp
       with_reducible rfl
      rotate_left
      ·
       simp only [Act.put,la_,l0_,l1_,i64_w,i32_w]
       rfl
      refine pure_ (i:=10) (N:=some 32) (v:=?_) (a':=?_) #[true,true,true,true,false,false,true,false,true,true,true,false,false,false,false,false,false,false] rfl rfl (any_of HT_.out (by kernel_rfl)) (fun _ _ _ h=>h) (Or.inl ⟨by rfl,?_⟩) ?_ ?_
      rotate_left
      ·
       intro w'
       go_simp
       with_reducible rfl
      rotate_left
      ·
       simp only [Act.put,la_,l0_,l1_,i64_w,i32_w]
       rfl
      refine pure_ (i:=11) (N:=some 33) (v:=?_) (a':=?_) #[true,true,true,true,false,false,true,false,true,true,true,true,false,false,false,false,false,false] rfl rfl (any_of HT_.out (by kernel_rfl)) (fun _ _ _ h=>h) (Or.inl ⟨by rfl,?_⟩) ?_ ?_
      rotate_left
      ·
       intro w'
       go_simp
       with_reducible rfl
      rotate_left
      ·
       simp only [Act.put,la_,l0_,l1_,i64_w,i32_w]
       rfl
      refine pure_ (i:=14) (N:=some 36) (v:=?_) (a':=?_) #[true,true,true,true,false,false,true,false,true,true,true,true,false,false,true,false,false,false] rfl rfl (any_of HT_.out (by kernel_rfl)) (fun _ _ _ h=>h) (Or.inl ⟨by rfl,?_⟩) ?_ ?_
      rotate_left
      ·
       intro w'
       go_simp
       with_reducible rfl
      rotate_left
      ·
       simp only [Act.put,la_,l0_,l1_,i64_w,i32_w]
       rfl
      refine take_ (i:=4) (N:=some 26) (v:=?_) (a':=?_) #[true,true,true,true,true,false,true,false,true,true,true,true,false,false,true,false,false,false] rfl rfl (take_ofW HT_.out HW_.out (by kernel_rfl)) (fun _ _ _ h=>h) (Or.inl ⟨by rfl,?_⟩) hHeld ?_ ?_
      rotate_left
      ·
       rintro w' ⟨s0,s1,s2,s3⟩
       go_simp
       with_reducible rfl
      rotate_left
      ·
       simp only [Act.put,la_,l0_,l1_,i64_w,i32_w]
       rfl
      refine take_ (i:=12) (N:=some 34) (v:=?_) (a':=?_) #[true,true,true,true,true,false,true,false,true,true,true,true,true,false,true,false,false,false] rfl rfl (take_ofW HT_.out HW_.out (by kernel_rfl)) (fun _ _ _ h=>h) (Or.inl ⟨by rfl,?_⟩) hHeld ?_ ?_
      rotate_left
      ·
       rintro w' ⟨s0,s1,s2,s3⟩
       go_simp
       with_reducible rfl
      rotate_left
      ·
       simp only [Act.put,la_,l0_,l1_,i64_w,i32_w]
       rfl
      refine one_ (i:=5) (N:=some 27) #[true,true,true,true,true,true,true,false,true,true,true,true,true,false,true,false,false,false] rfl rfl (one_of HT_.out (by kernel_rfl)) (by decide) (fun K hK=>?_)
      refine goes_ Try.func35 (by kernel_rfl) rfl #[.int .i64 ((rd_T30 l0 x8_1).f0),.int .i64 4194304] (by rfl) rfl rfl (by (try simp only [List.map_toArray,List.map_cons,List.map_nil]);first|done|rfl|(simp only [List.length_drop,List.length_take];rfl)) ?_
      with_reducible refine (garmentref14_limited.calls ((rd_T30 l0 x8_1).f0) 4194304 t336 _ A11.out).mono ?_
      rintro e w19 ⟨rfl,hb⟩
      refine ⟨_,rfl,?_⟩
      have n0_:=Aside0.mk (blk_below (g:=gb332) (o:=.cells #[.int .i64 a1_0,.int .i64 a1_1] 30 (0,0)) (by (with_reducible repeat (first|refine kn_ ?_ _|refine kd_ ?_|refine ka_ ?_ _));exact BK332.out) hb)
      have n1_:=Aside0.mk (below_step (by repeat (first|(with_reducible first|exact HB.out|apply ba_|apply bn_|apply bd_|refine below_set ?_ GE332.out)|exact HB.out)) hb)
      clear BK332
      clear HB
      have BK332:=n0_
      have HB:=n1_
      clear n0_ n1_
      (try clear hb)
      (try clear hb2)
      (try clear hk)
      (try clear hi)
      refine hK.out _ _ ⟨((HB.out.cell (bl_ w _ hw335_0)).trans hw335_0),((HB.out.cell (bl_ w _ hw335_1)).trans hw335_1),((HB.out.cell (bl_ w _ hw337_0)).trans hw337_0),((HB.out.cell (bl_ w _ hw337_1)).trans hw337_1)⟩ (fun hHeld=>?_)
      clear hK K
      refine norm_ (a':=?_) ?_ ?_
      rotate_left
      ·
       show Act.put _ (some 27) _ = _
       simp only [Act.put,la_,l0_,l1_,i64_w,i32_w]
       rfl
      refine pure_ (i:=7) (N:=some 29) (v:=?_) (a':=?_) #[true,true,true,true,true,true,true,true,true,true,true,true,true,false,true,false,false,false] rfl rfl (any_of HT_.out (by kernel_rfl)) (fun _ _ _ h=>h) (Or.inl ⟨by rfl,?_⟩) ?_ ?_
      rotate_left
      ·
       intro w'
       go_simp
       with_reducible rfl
      rotate_left
      ·
       simp only [Act.put,la_,l0_,l1_,i64_w,i32_w]
       rfl
      refine one_ (i:=13) (N:=some 35) #[true,true,true,true,true,true,true,true,true,true,true,true,true,true,true,false,false,false] rfl rfl (one_of HT_.out (by kernel_rfl)) (by decide) (fun K hK=>?_)
      refine goes_ Try.func35 (by kernel_rfl) rfl #[.int .i64 ((rd_T30 l0 x8_1).f1),.int .i64 4194304] (by rfl) rfl rfl (by (try simp only [List.map_toArray,List.map_cons,List.map_nil]);first|done|rfl|(simp only [List.length_drop,List.length_take];rfl)) ?_
      with_reducible refine (garmentref14_limited.calls ((rd_T30 l0 x8_1).f1) 4194304 t338 _ A12.out).mono ?_
      rintro e w20 ⟨rfl,hb⟩
      refine ⟨_,rfl,?_⟩
      have n0_:=Aside0.mk (blk_below (g:=gb332) (o:=.cells #[.int .i64 a1_0,.int .i64 a1_1] 30 (0,0)) (by (with_reducible repeat (first|refine kn_ ?_ _|refine kd_ ?_|refine ka_ ?_ _));exact BK332.out) hb)
      have n1_:=Aside0.mk (below_step (by repeat (first|(with_reducible first|exact HB.out|apply ba_|apply bn_|apply bd_|refine below_set ?_ GE332.out)|exact HB.out)) hb)
      clear BK332
      clear HB
      have BK332:=n0_
      have HB:=n1_
      clear n0_ n1_
      (try clear hb)
      (try clear hb2)
      (try clear hk)
      (try clear hi)
      refine hK.out _ _ ⟨((HB.out.cell (bl_ w _ hw335_0)).trans hw335_0),((HB.out.cell (bl_ w _ hw335_1)).trans hw335_1),((HB.out.cell (bl_ w _ hw337_0)).trans hw337_0),((HB.out.cell (bl_ w _ hw337_1)).trans hw337_1)⟩ (fun hHeld=>?_)
      clear hK K
      refine norm_ (a':=?_) ?_ ?_
      rotate_left
      ·
       show Act.put _ (some 35) _ = _
       simp only [Act.put,la_,l0_,l1_,i64_w,i32_w]
       rfl
      refine pure_ (i:=15) (N:=some 37) (v:=?_) (a':=?_) #[true,true,true,true,true,true,true,true,true,true,true,true,true,true,true,true,false,false] rfl rfl (any_of HT_.out (by kernel_rfl)) (fun _ _ _ h=>h) (Or.inl ⟨by rfl,?_⟩) ?_ ?_
      rotate_left
      ·
       intro w'
       go_simp
       with_reducible rfl
      rotate_left
      ·
       simp only [Act.put,la_,l0_,l1_,i64_w,i32_w]
       rfl
      refine pure_ (i:=16) (N:=some 38) (v:=?_) (a':=?_) #[true,true,true,true,true,true,true,true,true,true,true,true,true,true,true,true,true,false] rfl rfl (any_of HT_.out (by kernel_rfl)) (fun _ _ _ h=>h) (Or.inl ⟨by rfl,?_⟩) ?_ ?_
      rotate_left
      ·
       intro w'
       go_simp
       with_reducible rfl
      rotate_left
      ·
       simp only [Act.put,la_,l0_,l1_,i64_w,i32_w]
       rfl
      refine pure_ (i:=17) (N:=some 9) (v:=?_) (a':=?_) #[true,true,true,true,true,true,true,true,true,true,true,true,true,true,true,true,true,true] rfl rfl (any_of HT_.out (by kernel_rfl)) (fun _ _ _ h=>h) (Or.inl ⟨by rfl,?_⟩) ?_ ?_
      rotate_left
      ·
       intro w'
       go_simp
       with_reducible rfl
      rotate_left
      ·
       simp only [Act.put,la_,l0_,l1_,i64_w,i32_w]
       rfl
      refine done_ (done_of HT_.out (by kernel_rfl)) ?_
      try go_wp2
      go_roundg k1
      case measure=>have:=HK1.out;omega
      case rel=>exact ⟨(wrap64 ((wrap64 (t336 * t333)) + (wrap64 (t338 * t334)))),(wrap64 (x8_1 + 1)),(by first|rfl|(simp;done)|(simp [*];done)),(by first|rfl|(simp;done)|(simp [*];done)),H',⟨by have:=HK1.out;omega⟩,⟨by (with_reducible repeat (first|refine kn_ ?_ _|refine kd_ ?_|refine ka_ ?_ _));exact BK332.out⟩,⟨by repeat (first|(with_reducible first|exact HB.out|apply ba_|apply bn_|apply bd_|refine below_set ?_ GE332.out)|exact HB.out)⟩⟩
     rw [if_neg c17] at H
     have c17b0 : decide (x7_1 < (wrap64 ((wrap64 (t336 * t333)) + (wrap64 (t338 * t334))))) = false:=decide_eq_false c17
     clear c17
     have H':=Aside0.mk H
     clear H
     try go_wp2
     have n0_:=Aside0.mk (kd_ BK332.out)
     have n1_:=Aside0.mk (bd_ HB.out)
     clear BK332
     clear HB
     have BK332:=n0_
     have HB:=n1_
     clear n0_ n1_
     have p335 : 0 ≤ (x8_1 : Int):=of_decide_eq_true (by first|(with_reducible assumption)|assumption)
     have q335 : x8_1 < (l0.length : Int):=of_decide_eq_true (by first|(with_reducible assumption)|assumption)
     obtain ⟨ad335,e335,hx335_0,hx335_1⟩:=at_T30 HR0.out x8_1 p335 q335
     have hw335_1:=hx335_1
     have hw335_0:=hx335_0
     cases e335
     replace hx335_0:=(HB.out.cell (bl_ w _ hx335_0)).trans hx335_0
     replace hx335_1:=(HB.out.cell (bl_ w _ hx335_1)).trans hx335_1
     replace p335:=eq_true p335
     replace q335:=eq_true q335
     have p337 : 0 ≤ (x8_1 : Int):=of_decide_eq_true (by first|(with_reducible assumption)|assumption)
     have q337 : x8_1 < (l0.length : Int):=of_decide_eq_true (by first|(with_reducible assumption)|assumption)
     obtain ⟨ad337,e337,hx337_0,hx337_1⟩:=at_T30 HR0.out x8_1 p337 q337
     have hw337_1:=hx337_1
     have hw337_0:=hx337_0
     obtain rfl : ad335 = ad337:=(by injection e337)
     replace hx337_0:=(HB.out.cell (bl_ w _ hx337_0)).trans hx337_0
     replace hx337_1:=(HB.out.cell (bl_ w _ hx337_1)).trans hx337_1
     replace p337:=eq_true p337
     replace q337:=eq_true q337
     refine start_ (n:=18) (S:=fun w'=>w'.cell? (ad335.add ((x8_1).toNat * 2)) = some (.int .i64 ((rd_T30 l0 x8_1).f0))∧w'.cell? ⟨(ad335.add ((x8_1).toNat * 2)).block,(ad335.add ((x8_1).toNat * 2)).off + 1,none⟩ = some (.int .i64 ((rd_T30 l0 x8_1).f1))∧w'.cell? (ad335.add ((x8_1).toNat * 2)) = some (.int .i64 ((rd_T30 l0 x8_1).f0))∧w'.cell? ⟨(ad335.add ((x8_1).toNat * 2)).block,(ad335.add ((x8_1).toNat * 2)).off + 1,none⟩ = some (.int .i64 ((rd_T30 l0 x8_1).f1))) (ds:=[]) #[false,false,false,false,false,false,false,false,false,false,false,false,false,false,false,false,false,false] (by kernel_rfl) rfl rfl ⟨((HB.out.cell (bl_ w _ hw335_0)).trans hw335_0),((HB.out.cell (bl_ w _ hw335_1)).trans hw335_1),((HB.out.cell (bl_ w _ hw337_0)).trans hw337_0),((HB.out.cell (bl_ w _ hw337_1)).trans hw337_1)⟩ (fun hHeld=>?_);refine with_tabW garmentref14_Support.tab6 garmentref14_Support.bits6 (fun HT_ HW_=>?_)
     generalize wr.drew = w21 at BK332 HB hx335_0 hx335_1 hx337_0 hx337_1 hHeld ⊢
     refine pure_ (i:=0) (N:=some 22) (v:=?_) (a':=?_) #[true,false,false,false,false,false,false,false,false,false,false,false,false,false,false,false,false,false] rfl rfl (any_of HT_.out (by kernel_rfl)) (fun _ _ _ h=>h) (Or.inl ⟨by rfl,?_⟩) ?_ ?_
     rotate_left
     ·
      intro w'
      go_simp
      with_reducible rfl
     rotate_left
     ·
      simp only [Act.put,la_,l0_,l1_,i64_w,i32_w]
      rfl
     refine pure_ (i:=1) (N:=some 23) (v:=?_) (a':=?_) #[true,true,false,false,false,false,false,false,false,false,false,false,false,false,false,false,false,false] rfl rfl (any_of HT_.out (by kernel_rfl)) (fun _ _ _ h=>h) (Or.inl ⟨by rfl,?_⟩) ?_ ?_
     rotate_left
     ·
      intro w'
      go_simp
      with_reducible rfl
     rotate_left
     ·
      simp only [Act.put,la_,l0_,l1_,i64_w,i32_w]
      rfl
     refine pure_ (i:=2) (N:=some 24) (v:=?_) (a':=?_) #[true,true,true,false,false,false,false,false,false,false,false,false,false,false,false,false,false,false] rfl rfl (any_of HT_.out (by kernel_rfl)) (fun _ _ _ h=>h) (Or.inl ⟨by rfl,?_⟩) ?_ ?_
     rotate_left
     ·
      intro w'
      go_simp
      with_reducible rfl
     rotate_left
     ·
      simp only [Act.put,la_,l0_,l1_,i64_w,i32_w]
      rfl
     refine pure_ (i:=3) (N:=some 25) (v:=?_) (a':=?_) #[true,true,true,true,false,false,false,false,false,false,false,false,false,false,false,false,false,false] rfl rfl (any_of HT_.out (by kernel_rfl)) (fun _ _ _ h=>h) (Or.inl ⟨by rfl,?_⟩) ?_ ?_
     rotate_left
     ·
      intro w'
      go_simp
      with_reducible rfl
     rotate_left
     ·
      simp only [Act.put,la_,l0_,l1_,i64_w,i32_w]
      rfl
     refine pure_ (i:=6) (N:=some 28) (v:=?_) (a':=?_) #[true,true,true,true,false,false,true,false,false,false,false,false,false,false,false,false,false,false] rfl rfl (any_of HT_.out (by kernel_rfl)) (fun _ _ _ h=>h) (Or.inl ⟨by rfl,?_⟩) ?_ ?_
     rotate_left
     ·
      intro w'
      go_simp
      with_reducible rfl
     rotate_left
     ·
      simp only [Act.put,la_,l0_,l1_,i64_w,i32_w]
      rfl
     refine pure_ (i:=8) (N:=some 30) (v:=?_) (a':=?_) #[true,true,true,true,false,false,true,false,true,false,false,false,false,false,false,false,false,false] rfl rfl (any_of HT_.out (by kernel_rfl)) (fun _ _ _ h=>h) (Or.inl ⟨by rfl,?_⟩) ?_ ?_
     rotate_left
     ·
      intro w'
      go_simp
      with_reducible rfl
     rotate_left
     ·
      simp only [Act.put,la_,l0_,l1_,i64_w,i32_w]
      rfl
     refine pure_ (i:=9) (N:=some 31) (v:=?_) (a':=?_) #[true,true,true,true,false,false,true,false,true,true,false,false,false,false,false,false,false,false] rfl rfl (any_of HT_.out (by kernel_rfl)) (fun _ _ _ h=>h) (Or.inl ⟨by rfl,?_⟩) ?_ ?_
     rotate_left
     ·
      intro w'
      go_simp
      with_reducible rfl
     rotate_left
     ·
      simp only [Act.put,la_,l0_,l1_,i64_w,i32_w]
      rfl
     refine pure_ (i:=10) (N:=some 32) (v:=?_) (a':=?_) #[true,true,true,true,false,false,true,false,true,true,true,false,false,false,false,false,false,false] rfl rfl (any_of HT_.out (by kernel_rfl)) (fun _ _ _ h=>h) (Or.inl ⟨by rfl,?_⟩) ?_ ?_
     rotate_left
     ·
      intro w'
      go_simp
      with_reducible rfl
     rotate_left
     ·
      simp only [Act.put,la_,l0_,l1_,i64_w,i32_w]
      rfl
     refine pure_ (i:=11) (N:=some 33) (v:=?_) (a':=?_) #[true,true,true,true,false,false,true,false,true,true,true,true,false,false,false,false,false,false] rfl rfl (any_of HT_.out (by kernel_rfl)) (fun _ _ _ h=>h) (Or.inl ⟨by rfl,?_⟩) ?_ ?_
     rotate_left
     ·
      intro w'
      go_simp
      with_reducible rfl
     rotate_left
     ·
      simp only [Act.put,la_,l0_,l1_,i64_w,i32_w]
      rfl
     refine pure_ (i:=14) (N:=some 36) (v:=?_) (a':=?_) #[true,true,true,true,false,false,true,false,true,true,true,true,false,false,true,false,false,false] rfl rfl (any_of HT_.out (by kernel_rfl)) (fun _ _ _ h=>h) (Or.inl ⟨by rfl,?_⟩) ?_ ?_
     rotate_left
     ·
      intro w'
      go_simp
      with_reducible rfl
     rotate_left
     ·
      simp only [Act.put,la_,l0_,l1_,i64_w,i32_w]
      rfl
     refine take_ (i:=4) (N:=some 26) (v:=?_) (a':=?_) #[true,true,true,true,true,false,true,false,true,true,true,true,false,false,true,false,false,false] rfl rfl (take_ofW HT_.out HW_.out (by kernel_rfl)) (fun _ _ _ h=>h) (Or.inl ⟨by rfl,?_⟩) hHeld ?_ ?_
     rotate_left
     ·
      rintro w' ⟨s0,s1,s2,s3⟩
      go_simp
      with_reducible rfl
     rotate_left
     ·
      simp only [Act.put,la_,l0_,l1_,i64_w,i32_w]
      rfl
     refine take_ (i:=12) (N:=some 34) (v:=?_) (a':=?_) #[true,true,true,true,true,false,true,false,true,true,true,true,true,false,true,false,false,false] rfl rfl (take_ofW HT_.out HW_.out (by kernel_rfl)) (fun _ _ _ h=>h) (Or.inl ⟨by rfl,?_⟩) hHeld ?_ ?_
     rotate_left
     ·
      rintro w' ⟨s0,s1,s2,s3⟩
      go_simp
      with_reducible rfl
     rotate_left
     ·
      simp only [Act.put,la_,l0_,l1_,i64_w,i32_w]
      rfl
     refine one_ (i:=5) (N:=some 27) #[true,true,true,true,true,true,true,false,true,true,true,true,true,false,true,false,false,false] rfl rfl (one_of HT_.out (by kernel_rfl)) (by decide) (fun K hK=>?_)
     refine goes_ Try.func35 (by kernel_rfl) rfl #[.int .i64 ((rd_T30 l0 x8_1).f0),.int .i64 4194304] (by rfl) rfl rfl (by (try simp only [List.map_toArray,List.map_cons,List.map_nil]);first|done|rfl|(simp only [List.length_drop,List.length_take];rfl)) ?_
     with_reducible refine (garmentref14_limited.calls ((rd_T30 l0 x8_1).f0) 4194304 t336 _ A11.out).mono ?_
     rintro e w22 ⟨rfl,hb⟩
     refine ⟨_,rfl,?_⟩
     have n0_:=Aside0.mk (blk_below (g:=gb332) (o:=.cells #[.int .i64 a1_0,.int .i64 a1_1] 30 (0,0)) (by (with_reducible repeat (first|refine kn_ ?_ _|refine kd_ ?_|refine ka_ ?_ _));exact BK332.out) hb)
     have n1_:=Aside0.mk (below_step (by repeat (first|(with_reducible first|exact HB.out|apply ba_|apply bn_|apply bd_|refine below_set ?_ GE332.out)|exact HB.out)) hb)
     clear BK332
     clear HB
     have BK332:=n0_
     have HB:=n1_
     clear n0_ n1_
     (try clear hb)
     (try clear hb2)
     (try clear hk)
     (try clear hi)
     refine hK.out _ _ ⟨((HB.out.cell (bl_ w _ hw335_0)).trans hw335_0),((HB.out.cell (bl_ w _ hw335_1)).trans hw335_1),((HB.out.cell (bl_ w _ hw337_0)).trans hw337_0),((HB.out.cell (bl_ w _ hw337_1)).trans hw337_1)⟩ (fun hHeld=>?_)
     clear hK K
     refine norm_ (a':=?_) ?_ ?_
     rotate_left
     ·
      show Act.put _ (some 27) _ = _
      simp only [Act.put,la_,l0_,l1_,i64_w,i32_w]
      rfl
     refine pure_ (i:=7) (N:=some 29) (v:=?_) (a':=?_) #[true,true,true,true,true,true,true,true,true,true,true,true,true,false,true,false,false,false] rfl rfl (any_of HT_.out (by kernel_rfl)) (fun _ _ _ h=>h) (Or.inl ⟨by rfl,?_⟩) ?_ ?_
     rotate_left
     ·
      intro w'
      go_simp
      with_reducible rfl
     rotate_left
     ·
      simp only [Act.put,la_,l0_,l1_,i64_w,i32_w]
      rfl
     refine one_ (i:=13) (N:=some 35) #[true,true,true,true,true,true,true,true,true,true,true,true,true,true,true,false,false,false] rfl rfl (one_of HT_.out (by kernel_rfl)) (by decide) (fun K hK=>?_)
     refine goes_ Try.func35 (by kernel_rfl) rfl #[.int .i64 ((rd_T30 l0 x8_1).f1),.int .i64 4194304] (by rfl) rfl rfl (by (try simp only [List.map_toArray,List.map_cons,List.map_nil]);first|done|rfl|(simp only [List.length_drop,List.length_take];rfl)) ?_
     with_reducible refine (garmentref14_limited.calls ((rd_T30 l0 x8_1).f1) 4194304 t338 _ A12.out).mono ?_
     rintro e w23 ⟨rfl,hb⟩
     refine ⟨_,rfl,?_⟩
     have n0_:=Aside0.mk (blk_below (g:=gb332) (o:=.cells #[.int .i64 a1_0,.int .i64 a1_1] 30 (0,0)) (by (with_reducible repeat (first|refine kn_ ?_ _|refine kd_ ?_|refine ka_ ?_ _));exact BK332.out) hb)
     have n1_:=Aside0.mk (below_step (by repeat (first|(with_reducible first|exact HB.out|apply ba_|apply bn_|apply bd_|refine below_set ?_ GE332.out)|exact HB.out)) hb)
     clear BK332
     clear HB
     have BK332:=n0_
     have HB:=n1_
     clear n0_ n1_
     (try clear hb)
     (try clear hb2)
     (try clear hk)
     (try clear hi)
     refine hK.out _ _ ⟨((HB.out.cell (bl_ w _ hw335_0)).trans hw335_0),((HB.out.cell (bl_ w _ hw335_1)).trans hw335_1),((HB.out.cell (bl_ w _ hw337_0)).trans hw337_0),((HB.out.cell (bl_ w _ hw337_1)).trans hw337_1)⟩ (fun hHeld=>?_)
     clear hK K
     refine norm_ (a':=?_) ?_ ?_
     rotate_left
     ·
      show Act.put _ (some 35) _ = _
      simp only [Act.put,la_,l0_,l1_,i64_w,i32_w]
      rfl
     refine pure_ (i:=15) (N:=some 37) (v:=?_) (a':=?_) #[true,true,true,true,true,true,true,true,true,true,true,true,true,true,true,true,false,false] rfl rfl (any_of HT_.out (by kernel_rfl)) (fun _ _ _ h=>h) (Or.inl ⟨by rfl,?_⟩) ?_ ?_
     rotate_left
     ·
      intro w'
      go_simp
      with_reducible rfl
     rotate_left
     ·
      simp only [Act.put,la_,l0_,l1_,i64_w,i32_w]
      rfl
     refine pure_ (i:=16) (N:=some 38) (v:=?_) (a':=?_) #[true,true,true,true,true,true,true,true,true,true,true,true,true,true,true,true,true,false] rfl rfl (any_of HT_.out (by kernel_rfl)) (fun _ _ _ h=>h) (Or.inl ⟨by rfl,?_⟩) ?_ ?_
     rotate_left
     ·
      intro w'
      go_simp
      with_reducible rfl
     rotate_left
     ·
      simp only [Act.put,la_,l0_,l1_,i64_w,i32_w]
      rfl
     refine pure_ (i:=17) (N:=some 9) (v:=?_) (a':=?_) #[true,true,true,true,true,true,true,true,true,true,true,true,true,true,true,true,true,true] rfl rfl (any_of HT_.out (by kernel_rfl)) (fun _ _ _ h=>h) (Or.inl ⟨by rfl,?_⟩) ?_ ?_
     rotate_left
     ·
      intro w'
      go_simp
      with_reducible rfl
     rotate_left
     ·
      simp only [Act.put,la_,l0_,l1_,i64_w,i32_w]
      rfl
     refine done_ (done_of HT_.out (by kernel_rfl)) ?_
     try go_wp2
     go_roundg k1
     case measure=>have:=HK1.out;omega
     case rel=>exact ⟨(x7_1),(wrap64 (x8_1 + 1)),(by first|rfl|(simp;done)|(simp [*];done)),(by first|rfl|(simp;done)|(simp [*];done)),H',⟨by have:=HK1.out;omega⟩,⟨by (with_reducible repeat (first|refine kn_ ?_ _|refine kd_ ?_|refine ka_ ?_ _));exact BK332.out⟩,⟨by repeat (first|(with_reducible first|exact HB.out|apply ba_|apply bn_|apply bd_|refine below_set ?_ GE332.out)|exact HB.out)⟩⟩
    rw [if_neg c10] at H
    exact absurd H (by simp)
   rw [if_neg c9] at H
   have c9b0 : decide (x8_1 < (l0.length : Int)) = false:=decide_eq_false c9
   clear c9
   obtain rfl:=Option.some.inj H
   go_wp2
   go_ret
   exact ⟨by first|rfl|(simp [errW_none,errW_some] <;> rfl)|(simp [*,errW_none,errW_some] <;> rfl),by repeat (first|(with_reducible first|exact HB.out|apply ba_|apply bn_|apply bd_|refine below_set ?_ GE332.out)|exact HB.out)⟩

end Go.Proofs.Ytlnigbhimdphoaa.C
