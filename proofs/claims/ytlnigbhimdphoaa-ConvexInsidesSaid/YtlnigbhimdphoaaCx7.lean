-- PRINTED by print.py (a twelfth state) out of the translation. Not trusted: Lean checks it.
import Derived.Test.YtlnigbhimdphoaaCx0
import Derived.Test.YtlnigbhimdphoaaCx6
namespace Go.Proofs.Ytlnigbhimdphoaa.C
open Go.RowKit Go.Proofs.YtlnigbhimdphoaaW.PrintWords Go.Proofs.YtlnigbhimdphoaaW.PrintLast Go.Proofs.YtlnigbhimdphoaaW.PrintMore
attribute [local go_sem] max2_int min2_int max_two min_two max_three min_three max_four min_four Go.Proofs.Ytlnigbhimdphoaa.Aid.isSome_setCell   -- for this text's walks alone
set_option linter.unusedVariables false
set_option linter.unusedSimpArgs false

/-! ### convex_Support: function 18 -/
def convex_Support.l0 : Nat → Int → Int → Int → List (S30) → Int → Int → Option (Int)
 | 0,_,_,_,_,_,_=>none
 | k + 1,x5,x6,x7,x17,x18,x19=>if x19 < x18 then (if 0 ≤ x19 then (if x19 < (x17.length : Int) then ((convex_limit.f ((rd_T30 x17 x19).f0) 4194304).bind fun t173=>((convex_limit.f ((rd_T30 x17 x19).f1) 4194304).bind fun t174=>(if x19 = 0 then (convex_Support.l0 k x5 x6 (wrap64 ((wrap64 (t173 * x5)) + (wrap64 (t174 * x6)))) x17 x18 (wrap64 (x19 + 1))) else (if (wrap64 ((wrap64 (t173 * x5)) + (wrap64 (t174 * x6)))) > x7 then (convex_Support.l0 k x5 x6 (wrap64 ((wrap64 (t173 * x5)) + (wrap64 (t174 * x6)))) x17 x18 (wrap64 (x19 + 1))) else (convex_Support.l0 k x5 x6 x7 x17 x18 (wrap64 (x19 + 1))))))) else (none)) else (none)) else (some x7)
def convex_Support.f (k : Nat) (l0 : List (S30)) (a1_0 : Int) (a1_1 : Int) : Option (Int):=(convex_limit.f a1_0 1000).bind fun t169=>((convex_limit.f a1_1 1000).bind fun t170=>(convex_Support.l0 k t169 t170 0 l0 (l0.length : Int) 0))
theorem convex_Support.mono_l : ∀ k,(∀ y0 y1 y2 y3 y4 y5,LeO (convex_Support.l0 k y0 y1 y2 y3 y4 y5) (convex_Support.l0 (k + 1) y0 y1 y2 y3 y4 y5))
 | 0=>fun _ _ _ _ _ _ r h=>by simp [convex_Support.l0] at h
 | k + 1=>by
  have ih0:=convex_Support.mono_l k
  intro y0 y1 y2 y3 y4 y5
  unfold convex_Support.l0
  repeat' first
  | (with_reducible exact ih0 _ _ _ _ _ _)
  | (with_reducible exact LeO.refl _)
  | (with_reducible exact LeO.none _)
  | (with_reducible refine LeO.ite ?_ ?_)
  | (with_reducible refine LeO.bind ?_ (fun _=>?_))
  | exact ih0 _ _ _ _ _ _
  | exact LeO.none _
  | refine LeO.ite ?_ ?_
  | refine LeO.bind ?_ (fun _=>?_)
theorem convex_Support.mono : ∀ a0 a1 a2 k,LeO (convex_Support.f k a0 a1 a2) (convex_Support.f (k + 1) a0 a1 a2):=by
 intro a0 a1 a2 k
 have ih0:=convex_Support.mono_l k
 unfold convex_Support.f
 repeat' first
   | (with_reducible exact ih0 _ _ _ _ _ _)
   | (with_reducible exact LeO.refl _)
   | (with_reducible exact LeO.none _)
   | (with_reducible refine LeO.ite ?_ ?_)
   | (with_reducible refine LeO.bind ?_ (fun _=>?_))
   | exact ih0 _ _ _ _ _ _
   | exact LeO.none _
   | refine LeO.ite ?_ ?_
   | refine LeO.bind ?_ (fun _=>?_)
def convex_Support.T1 : Bool × List (List Nat × List Nat):=(true,[([],[]),([0],[0]),([1],[1]),([],[]),([3],[3]),([4,2],[4]),([2,5,0,1,2],[2]),([5,6,0,1,2,3,4,5,6],[5])])
def convex_Support.B1 : List Nat:=[0,1,3,0,8,31,63,127]
theorem convex_Support.tab1 : rtab .any (opsOf Try.f18 1) = convex_Support.T1:=by kernel_rfl
theorem convex_Support.bits1 : waitsOk convex_Support.T1.2 convex_Support.B1 = true:=by kernel_rfl
def convex_Support.T6 : Bool × List (List Nat × List Nat):=(true,[([],[]),([0],[0]),([1],[1]),([],[]),([2,3],[2,3]),([],[]),([5],[5]),([6,2],[6]),([],[]),([7,8],[7,8]),([4,9],[4,9]),([10,7,0,1,2,3,4,5,6,7,8,9,10],[10])])
def convex_Support.B6 : List Nat:=[0,1,3,0,15,0,32,103,0,487,1023,2047]
theorem convex_Support.tab6 : rtab .any (opsOf Try.f18 6) = convex_Support.T6:=by kernel_rfl
theorem convex_Support.bits6 : waitsOk convex_Support.T6.2 convex_Support.B6 = true:=by kernel_rfl
set_option maxHeartbeats 8000000 in
set_option maxRecDepth 100000 in
theorem convex_Support.calls (k : Nat) (A0 : Option Addr) (c0 : Nat) (l0 : List (S30)) (a1_0 : Int) (a1_1 : Int) (r : Int) (w : World) (hr0 : Kd.C k30 w A0 l0.length l0) (hc0 : l0.length ≤ c0) (h : convex_Support.f k l0 a1_0 a1_1 = some r) :
  Calls Try.prog 18 #[.slice A0 l0.length c0,.agg #[.int .i64 a1_0,.int .i64 a1_1]] w fun e w'=>e = .returned (.int .i64 r)∧Below w.heap.size w w':=by
 have hu30:=Try.underlying30
 have HR0:=Aside0.mk hr0
 have HC0:=Aside0.mk hc0
 clear hr0 hc0
 have HB:=Aside0.mk (Below.refl w.heap.size w)
 have H : ((convex_limit.f a1_0 1000).bind fun t169=>((convex_limit.f a1_1 1000).bind fun t170=>(convex_Support.l0 k t169 t170 0 l0 (l0.length : Int) 0))) = some r:=h
 clear h
 replace H:=Option.bind_eq_some_iff.mp H
 obtain ⟨t169,A30,H⟩:=H
 replace H : ((convex_limit.f a1_1 1000).bind fun t170=>(convex_Support.l0 k t169 t170 0 l0 (l0.length : Int) 0)) = some r:=H
 have A3:=Aside0.mk A30
 clear A30
 replace H:=Option.bind_eq_some_iff.mp H
 obtain ⟨t170,A40,H⟩:=H
 replace H : (convex_Support.l0 k t169 t170 0 l0 (l0.length : Int) 0) = some r:=H
 have A4:=Aside0.mk A40
 clear A40
 have H':=Aside0.mk H
 clear H
 go_enter Try.func18,Try.ntmps18
 try go_wp2_with (first|((with_reducible refine gate_dst (N:=3) rfl ?_);refine box_event ?hg (N:=3) ?hd (cs:=#[.int .i64 a1_0,.int .i64 a1_1]) (t:=30) ?hr ?_;(case hd=>rfl);(case hg=>rfl);(case hr=>first|(go_simp;done)|(go_simp;rfl));intro gb168 hg w5 hbox hb;have n0_:=Aside0.mk (below_step (by repeat (first|(with_reducible first|exact HB.out|apply ba_|apply bn_|apply bd_)|exact HB.out)) hb);have n1_:=Aside0.mk (hbox);have n2_:=Aside0.mk ((by rw [hg];exact (below_size (by repeat (first|(with_reducible first|exact HB.out|apply ba_|apply bn_|apply bd_)|exact HB.out))) : w.heap.size ≤ gb168));have n3_:=Aside0.mk ((by rw [hg];exact (below_size (by repeat (first|(with_reducible first|exact HB.out|apply ba_|apply bn_|apply bd_)|exact HB.out))) : w.heap.size ≤ gb168));clear HB;have HB:=n0_;have BK168:=n1_;have GW168:=n2_;have GE168:=n3_;clear n0_ n1_ n2_ n3_;clear hb hbox hg))
 have n0_:=Aside0.mk (kd_ BK168.out)
 have n1_:=Aside0.mk (bd_ HB.out)
 clear BK168
 clear HB
 have BK168:=n0_
 have HB:=n1_
 clear n0_ n1_
 refine start_ (n:=8) (S:=fun w'=>w'.cell? ⟨gb168,0,none⟩ = some (.int .i64 a1_0)∧w'.cell? ⟨gb168,1,none⟩ = some (.int .i64 a1_1)) (ds:=[]) #[false,false,false,false,false,false,false,false] (by kernel_rfl) rfl rfl ⟨(blk_cell BK168.out 0).trans rfl,(blk_cell BK168.out 1).trans rfl⟩ (fun hHeld=>?_);refine with_tabW convex_Support.tab1 convex_Support.bits1 (fun HT_ HW_=>?_)
 generalize w5.drew = w6 at BK168 HB hHeld ⊢
 refine pure_ (i:=0) (N:=some 11) (v:=?_) (a':=?_) #[true,false,false,false,false,false,false,false] rfl rfl (any_of HT_.out (by kernel_rfl)) (fun _ _ _ h=>h) (Or.inl ⟨by rfl,?_⟩) ?_ ?_
 rotate_left
 ·
  intro w'
  go_simp
  with_reducible rfl
 rotate_left
 ·
  simp only [Act.put,la_,l0_,l1_,i64_w,i32_w]
  rfl
 refine pure_ (i:=3) (N:=some 14) (v:=?_) (a':=?_) #[true,false,false,true,false,false,false,false] rfl rfl (any_of HT_.out (by kernel_rfl)) (fun _ _ _ h=>h) (Or.inl ⟨by rfl,?_⟩) ?_ ?_
 rotate_left
 ·
  intro w'
  go_simp
  with_reducible rfl
 rotate_left
 ·
  simp only [Act.put,la_,l0_,l1_,i64_w,i32_w]
  rfl
 refine take_ (i:=1) (N:=some 12) (v:=?_) (a':=?_) #[true,true,false,true,false,false,false,false] rfl rfl (take_ofW HT_.out HW_.out (by kernel_rfl)) (fun _ _ _ h=>h) (Or.inl ⟨by rfl,?_⟩) hHeld ?_ ?_
 rotate_left
 ·
  rintro w' ⟨s0,s1⟩
  go_simp
  with_reducible rfl
 rotate_left
 ·
  simp only [Act.put,la_,l0_,l1_,i64_w,i32_w]
  rfl
 refine take_ (i:=4) (N:=some 15) (v:=?_) (a':=?_) #[true,true,false,true,true,false,false,false] rfl rfl (take_ofW HT_.out HW_.out (by kernel_rfl)) (fun _ _ _ h=>h) (Or.inl ⟨by rfl,?_⟩) hHeld ?_ ?_
 rotate_left
 ·
  rintro w' ⟨s0,s1⟩
  go_simp
  with_reducible rfl
 rotate_left
 ·
  simp only [Act.put,la_,l0_,l1_,i64_w,i32_w]
  rfl
 refine one_ (i:=2) (N:=some 13) #[true,true,true,true,true,false,false,false] rfl rfl (one_of HT_.out (by kernel_rfl)) (by decide) (fun K hK=>?_)
 refine goes_ Try.func34 (by kernel_rfl) rfl #[.int .i64 a1_0,.int .i64 1000] (by rfl) rfl rfl (by (try simp only [List.map_toArray,List.map_cons,List.map_nil]);first|done|rfl|(simp only [List.length_drop,List.length_take];rfl)) ?_
 with_reducible refine (convex_limit.calls a1_0 1000 t169 _ A3.out).mono ?_
 rintro e w7 ⟨rfl,hb⟩
 refine ⟨_,rfl,?_⟩
 have n0_:=Aside0.mk (blk_below (g:=gb168) (o:=.cells #[.int .i64 a1_0,.int .i64 a1_1] 30 (0,0)) (by (with_reducible repeat (first|refine kn_ ?_ _|refine kd_ ?_|refine ka_ ?_ _));exact BK168.out) hb)
 have n1_:=Aside0.mk (below_step (by repeat (first|(with_reducible first|exact HB.out|apply ba_|apply bn_|apply bd_|refine below_set ?_ GE168.out)|exact HB.out)) hb)
 clear BK168
 clear HB
 have BK168:=n0_
 have HB:=n1_
 clear n0_ n1_
 (try clear hb)
 (try clear hb2)
 (try clear hk)
 (try clear hi)
 refine hK.out _ _ ⟨(blk_cell BK168.out 0).trans rfl,(blk_cell BK168.out 1).trans rfl⟩ (fun hHeld=>?_)
 clear hK K
 refine norm_ (a':=?_) ?_ ?_
 rotate_left
 ·
  show Act.put _ (some 13) _ = _
  simp only [Act.put,la_,l0_,l1_,i64_w,i32_w]
  rfl
 refine one_ (i:=5) (N:=some 16) #[true,true,true,true,true,true,false,false] rfl rfl (one_of HT_.out (by kernel_rfl)) (by decide) (fun K hK=>?_)
 refine goes_ Try.func34 (by kernel_rfl) rfl #[.int .i64 a1_1,.int .i64 1000] (by rfl) rfl rfl (by (try simp only [List.map_toArray,List.map_cons,List.map_nil]);first|done|rfl|(simp only [List.length_drop,List.length_take];rfl)) ?_
 with_reducible refine (convex_limit.calls a1_1 1000 t170 _ A4.out).mono ?_
 rintro e w8 ⟨rfl,hb⟩
 refine ⟨_,rfl,?_⟩
 have n0_:=Aside0.mk (blk_below (g:=gb168) (o:=.cells #[.int .i64 a1_0,.int .i64 a1_1] 30 (0,0)) (by (with_reducible repeat (first|refine kn_ ?_ _|refine kd_ ?_|refine ka_ ?_ _));exact BK168.out) hb)
 have n1_:=Aside0.mk (below_step (by repeat (first|(with_reducible first|exact HB.out|apply ba_|apply bn_|apply bd_|refine below_set ?_ GE168.out)|exact HB.out)) hb)
 clear BK168
 clear HB
 have BK168:=n0_
 have HB:=n1_
 clear n0_ n1_
 (try clear hb)
 (try clear hb2)
 (try clear hk)
 (try clear hi)
 refine hK.out _ _ ⟨(blk_cell BK168.out 0).trans rfl,(blk_cell BK168.out 1).trans rfl⟩ (fun hHeld=>?_)
 clear hK K
 refine norm_ (a':=?_) ?_ ?_
 rotate_left
 ·
  show Act.put _ (some 16) _ = _
  simp only [Act.put,la_,l0_,l1_,i64_w,i32_w]
  rfl
 refine pure_ (i:=6) (N:=some 5) (v:=?_) (a':=?_) #[true,true,true,true,true,true,true,false] rfl rfl (any_of HT_.out (by kernel_rfl)) (fun _ _ _ h=>h) (Or.inl ⟨by rfl,?_⟩) ?_ ?_
 rotate_left
 ·
  intro w'
  go_simp
  with_reducible rfl
 rotate_left
 ·
  simp only [Act.put,la_,l0_,l1_,i64_w,i32_w]
  rfl
 refine pure_ (i:=7) (N:=some 6) (v:=?_) (a':=?_) #[true,true,true,true,true,true,true,true] rfl rfl (any_of HT_.out (by kernel_rfl)) (fun _ _ _ h=>h) (Or.inl ⟨by rfl,?_⟩) ?_ ?_
 rotate_left
 ·
  intro w'
  go_simp
  with_reducible rfl
 rotate_left
 ·
  simp only [Act.put,la_,l0_,l1_,i64_w,i32_w]
  rfl
 refine done_ (done_of HT_.out (by kernel_rfl)) ?_
 try go_wp2
 go_loopg [7,19] k (fun kq v7 v19 w'=>∃ (x7_1 : Int) (x19_1 : Int),v7 = .int .i64 x7_1∧v19 = .int .i64 x19_1∧Aside0 (convex_Support.l0 kq t169 t170 x7_1 l0 (l0.length : Int) x19_1 = some r)∧Aside0 (kq ≤ k)∧Aside0 (w'.heap[gb168]? = some (.cells #[.int .i64 a1_0,.int .i64 a1_1] 30 (0,0)))∧Aside0 (Below w.heap.size w w'))
 case atStart=>exact ⟨(0),(0),(by first|rfl|(simp;done)|(simp [*];done)),(by first|rfl|(simp;done)|(simp [*];done)),H',⟨Nat.le_refl _⟩,⟨by (with_reducible repeat (first|refine kn_ ?_ _|refine kd_ ?_|refine ka_ ?_ _));exact BK168.out⟩,⟨by repeat (first|(with_reducible first|exact HB.out|apply ba_|apply bn_|apply bd_|refine below_set ?_ GE168.out)|exact HB.out)⟩⟩
 case round =>
  clear H'
  try clear c1
  try clear p2
  try clear c3
  obtain ⟨x7_1,x19_1,rfl,rfl,HA,HK1,BK168,HB⟩:=hrel
  cases gk with
  | zero=>exact absurd HA.out (by simp [convex_Support.l0])
  | succ k1 =>
   have H:=HA.out
   clear HA
   simp only [convex_Support.l0] at H
   by_cases c9 : x19_1 < (l0.length : Int)
   ·
    rw [if_pos c9] at H
    have c9b0 : decide (x19_1 < (l0.length : Int)) = true:=decide_eq_true c9
    clear c9
    by_cases c10 : 0 ≤ x19_1
    ·
     rw [if_pos c10] at H
     have c10b0 : decide (0 ≤ x19_1) = true:=decide_eq_true c10
     clear c10
     by_cases c11 : x19_1 < (l0.length : Int)
     ·
      rw [if_pos c11] at H
      have c11b0 : decide (x19_1 < (l0.length : Int)) = true:=decide_eq_true c11
      clear c11
      replace H:=Option.bind_eq_some_iff.mp H
      obtain ⟨t173,A120,H⟩:=H
      replace H : ((convex_limit.f ((rd_T30 l0 x19_1).f1) 4194304).bind fun t174=>(if x19_1 = 0 then (convex_Support.l0 k1 t169 t170 (wrap64 ((wrap64 (t173 * t169)) + (wrap64 (t174 * t170)))) l0 (l0.length : Int) (wrap64 (x19_1 + 1))) else (if (wrap64 ((wrap64 (t173 * t169)) + (wrap64 (t174 * t170)))) > x7_1 then (convex_Support.l0 k1 t169 t170 (wrap64 ((wrap64 (t173 * t169)) + (wrap64 (t174 * t170)))) l0 (l0.length : Int) (wrap64 (x19_1 + 1))) else (convex_Support.l0 k1 t169 t170 x7_1 l0 (l0.length : Int) (wrap64 (x19_1 + 1)))))) = some r:=H
      have A12:=Aside0.mk A120
      clear A120
      replace H:=Option.bind_eq_some_iff.mp H
      obtain ⟨t174,A130,H⟩:=H
      replace H : (if x19_1 = 0 then (convex_Support.l0 k1 t169 t170 (wrap64 ((wrap64 (t173 * t169)) + (wrap64 (t174 * t170)))) l0 (l0.length : Int) (wrap64 (x19_1 + 1))) else (if (wrap64 ((wrap64 (t173 * t169)) + (wrap64 (t174 * t170)))) > x7_1 then (convex_Support.l0 k1 t169 t170 (wrap64 ((wrap64 (t173 * t169)) + (wrap64 (t174 * t170)))) l0 (l0.length : Int) (wrap64 (x19_1 + 1))) else (convex_Support.l0 k1 t169 t170 x7_1 l0 (l0.length : Int) (wrap64 (x19_1 + 1))))) = some r:=H
      have A13:=Aside0.mk A130
      clear A130
      by_cases c14 : x19_1 = 0
      ·
       rw [if_pos c14] at H
       have c14b0 : (x19_1 == 0) = true:=beq_iff_eq.mpr c14
       have c14b1 : (x19_1 != 0) = false:=bne_eq_false_iff_eq.mpr c14
       clear c14
       have H':=Aside0.mk H
       clear H
       have p171 : 0 ≤ (x19_1 : Int):=of_decide_eq_true (by first|(with_reducible assumption)|assumption)
       have q171 : x19_1 < (l0.length : Int):=of_decide_eq_true (by first|(with_reducible assumption)|assumption)
       obtain ⟨ad171,e171,hx171_0,hx171_1⟩:=at_T30 HR0.out x19_1 p171 q171
       cases e171
       replace hx171_0:=(HB.out.cell (bl_ w _ hx171_0)).trans hx171_0
       replace hx171_1:=(HB.out.cell (bl_ w _ hx171_1)).trans hx171_1
       replace p171:=eq_true p171
       replace q171:=eq_true q171
       try go_wp2_with (first|((with_reducible refine gate_dst (N:=9) rfl ?_);refine box_event ?hg (N:=9) ?hd (cs:=#[.int .i64 0,.int .i64 0]) (t:=30) ?hr ?_;(case hd=>rfl);(case hg=>rfl);(case hr=>first|(go_simp;done)|(go_simp;rfl));intro gb172 hg w15 hbox hb;have n0_:=Aside0.mk (blk_below (g:=gb168) (o:=.cells #[.int .i64 a1_0,.int .i64 a1_1] 30 (0,0)) (by (with_reducible repeat (first|refine kn_ ?_ _|refine kd_ ?_|refine ka_ ?_ _));exact BK168.out) hb);have n1_:=Aside0.mk (below_step (by repeat (first|(with_reducible first|exact HB.out|apply ba_|apply bn_|apply bd_|refine below_set ?_ GE168.out)|exact HB.out)) hb);have n2_:=Aside0.mk (hbox);have n3_:=Aside0.mk ((by rw [hg];exact (below_size (by repeat (first|(with_reducible first|exact HB.out|apply ba_|apply bn_|apply bd_|refine below_set ?_ GE168.out)|exact HB.out))) : w.heap.size ≤ gb172));have n4_:=Aside0.mk ((by rw [hg];exact (below_size (by repeat (first|(with_reducible first|exact HB.out|apply ba_|apply bn_|apply bd_|refine below_set ?_ GE168.out)|exact HB.out))) : w.heap.size ≤ gb172));have n5_:=Aside0.mk ((by rw [hg];exact Nat.ne_of_lt (blk_lt (g:=gb168) (o:=.cells #[.int .i64 a1_0,.int .i64 a1_1] 30 (0,0)) (by (with_reducible repeat (first|refine kn_ ?_ _|refine kd_ ?_|refine ka_ ?_ _));exact BK168.out)) : gb168 ≠ gb172));have n6_:=Aside0.mk ((by rw [hg];exact Nat.ne_of_gt (blk_lt (g:=gb168) (o:=.cells #[.int .i64 a1_0,.int .i64 a1_1] 30 (0,0)) (by (with_reducible repeat (first|refine kn_ ?_ _|refine kd_ ?_|refine ka_ ?_ _));exact BK168.out)) : gb172 ≠ gb168));clear BK168;clear HB;have BK168:=n0_;have HB:=n1_;have BK172:=n2_;have GW172:=n3_;have GE172:=n4_;have NB168_172:=n5_;have NB172_168:=n6_;clear n0_ n1_ n2_ n3_ n4_ n5_ n6_;clear hb hbox hg;have hnb16:=NB172_168.out;have hnc16:=NB168_172.out;have hcz17_0 : w15.cell? ⟨gb172,0,none⟩ = some (.int .i64 0):=(blk_cell BK172.out 0).trans rfl;have hcz17_1 : w15.cell? ⟨gb172,1,none⟩ = some (.int .i64 0):=(blk_cell BK172.out 1).trans rfl;have hfz17_0:=blk_frozen BK172.out 0;have hfz17_1:=blk_frozen BK172.out 1))
       have n0_ : Aside0 (((w15.setCell ⟨gb172,0,none⟩ (.int .i64 ((rd_T30 l0 x19_1).f0))).setCell ⟨gb172,1,none⟩ (.int .i64 ((rd_T30 l0 x19_1).f1))).heap[gb168]? = some (.cells #[.int .i64 a1_0,.int .i64 a1_1] 30 (0,0))):=⟨by (with_reducible repeat (first|refine kn_ ?_ _|refine kd_ ?_|refine ka_ ?_ _));refine blk_far ?_ NB168_172.out _;(with_reducible repeat (first|refine kn_ ?_ _|refine kd_ ?_|refine ka_ ?_ _));refine blk_far ?_ NB168_172.out _;(with_reducible repeat (first|refine kn_ ?_ _|refine kd_ ?_|refine ka_ ?_ _));exact BK168.out⟩
       have n1_ : Aside0 (((w15.setCell ⟨gb172,0,none⟩ (.int .i64 ((rd_T30 l0 x19_1).f0))).setCell ⟨gb172,1,none⟩ (.int .i64 ((rd_T30 l0 x19_1).f1))).heap[gb172]? = some (.cells #[.int .i64 ((rd_T30 l0 x19_1).f0),.int .i64 ((rd_T30 l0 x19_1).f1)] 30 (0,0))):=⟨by (with_reducible repeat (first|refine kn_ ?_ _|refine kd_ ?_|refine ka_ ?_ _));refine blk_put (cs:=#[.int .i64 ((rd_T30 l0 x19_1).f0),.int .i64 0]) ?_ 1 _ rfl;(with_reducible repeat (first|refine kn_ ?_ _|refine kd_ ?_|refine ka_ ?_ _));refine blk_put (cs:=#[.int .i64 0,.int .i64 0]) ?_ 0 _ rfl;(with_reducible repeat (first|refine kn_ ?_ _|refine kd_ ?_|refine ka_ ?_ _));exact BK172.out⟩
       have n2_ : Aside0 (Below w.heap.size w ((w15.setCell ⟨gb172,0,none⟩ (.int .i64 ((rd_T30 l0 x19_1).f0))).setCell ⟨gb172,1,none⟩ (.int .i64 ((rd_T30 l0 x19_1).f1)))):=⟨by repeat (first|(with_reducible first|exact HB.out|apply ba_|apply bn_|apply bd_|refine below_set ?_ GE168.out|refine below_set ?_ GE172.out)|exact HB.out)⟩
       (try clear BK168)
       (try clear BK172)
       (try clear HB)
       generalize ((w15.setCell ⟨gb172,0,none⟩ (.int .i64 ((rd_T30 l0 x19_1).f0))).setCell ⟨gb172,1,none⟩ (.int .i64 ((rd_T30 l0 x19_1).f1))) = w18 at n0_ n1_ n2_ ⊢
       have BK168:=n0_
       have BK172:=n1_
       have HB:=n2_
       clear n0_ n1_ n2_
       have n0_:=Aside0.mk (kd_ BK168.out)
       have n1_:=Aside0.mk (kd_ BK172.out)
       have n2_:=Aside0.mk (bd_ HB.out)
       clear BK168
       clear BK172
       clear HB
       have BK168:=n0_
       have BK172:=n1_
       have HB:=n2_
       clear n0_ n1_ n2_
       refine start_ (n:=12) (S:=fun w'=>w'.cell? ⟨gb172,0,none⟩ = some (.int .i64 ((rd_T30 l0 x19_1).f0))∧w'.cell? ⟨gb172,1,none⟩ = some (.int .i64 ((rd_T30 l0 x19_1).f1))) (ds:=[]) #[false,false,false,false,false,false,false,false,false,false,false,false] (by kernel_rfl) rfl rfl ⟨(blk_cell BK172.out 0).trans rfl,(blk_cell BK172.out 1).trans rfl⟩ (fun hHeld=>?_);refine with_tabW convex_Support.tab6 convex_Support.bits6 (fun HT_ HW_=>?_)
       generalize w18.drew = w19 at BK168 BK172 HB hHeld ⊢
       refine pure_ (i:=0) (N:=some 24) (v:=?_) (a':=?_) #[true,false,false,false,false,false,false,false,false,false,false,false] rfl rfl (any_of HT_.out (by kernel_rfl)) (fun _ _ _ h=>h) (Or.inl ⟨by rfl,?_⟩) ?_ ?_
       rotate_left
       ·
        intro w'
        go_simp
        with_reducible rfl
       rotate_left
       ·
        simp only [Act.put,la_,l0_,l1_,i64_w,i32_w]
        rfl
       refine pure_ (i:=3) (N:=some 27) (v:=?_) (a':=?_) #[true,false,false,true,false,false,false,false,false,false,false,false] rfl rfl (any_of HT_.out (by kernel_rfl)) (fun _ _ _ h=>h) (Or.inl ⟨by rfl,?_⟩) ?_ ?_
       rotate_left
       ·
        intro w'
        go_simp
        with_reducible rfl
       rotate_left
       ·
        simp only [Act.put,la_,l0_,l1_,i64_w,i32_w]
        rfl
       refine pure_ (i:=5) (N:=some 29) (v:=?_) (a':=?_) #[true,false,false,true,false,true,false,false,false,false,false,false] rfl rfl (any_of HT_.out (by kernel_rfl)) (fun _ _ _ h=>h) (Or.inl ⟨by rfl,?_⟩) ?_ ?_
       rotate_left
       ·
        intro w'
        go_simp
        with_reducible rfl
       rotate_left
       ·
        simp only [Act.put,la_,l0_,l1_,i64_w,i32_w]
        rfl
       refine pure_ (i:=8) (N:=some 32) (v:=?_) (a':=?_) #[true,false,false,true,false,true,false,false,true,false,false,false] rfl rfl (any_of HT_.out (by kernel_rfl)) (fun _ _ _ h=>h) (Or.inl ⟨by rfl,?_⟩) ?_ ?_
       rotate_left
       ·
        intro w'
        go_simp
        with_reducible rfl
       rotate_left
       ·
        simp only [Act.put,la_,l0_,l1_,i64_w,i32_w]
        rfl
       refine take_ (i:=1) (N:=some 25) (v:=?_) (a':=?_) #[true,true,false,true,false,true,false,false,true,false,false,false] rfl rfl (take_ofW HT_.out HW_.out (by kernel_rfl)) (fun _ _ _ h=>h) (Or.inl ⟨by rfl,?_⟩) hHeld ?_ ?_
       rotate_left
       ·
        rintro w' ⟨s0,s1⟩
        go_simp
        with_reducible rfl
       rotate_left
       ·
        simp only [Act.put,la_,l0_,l1_,i64_w,i32_w]
        rfl
       refine take_ (i:=6) (N:=some 30) (v:=?_) (a':=?_) #[true,true,false,true,false,true,true,false,true,false,false,false] rfl rfl (take_ofW HT_.out HW_.out (by kernel_rfl)) (fun _ _ _ h=>h) (Or.inl ⟨by rfl,?_⟩) hHeld ?_ ?_
       rotate_left
       ·
        rintro w' ⟨s0,s1⟩
        go_simp
        with_reducible rfl
       rotate_left
       ·
        simp only [Act.put,la_,l0_,l1_,i64_w,i32_w]
        rfl
       refine one_ (i:=2) (N:=some 26) #[true,true,true,true,false,true,true,false,true,false,false,false] rfl rfl (one_of HT_.out (by kernel_rfl)) (by decide) (fun K hK=>?_)
       refine goes_ Try.func34 (by kernel_rfl) rfl #[.int .i64 ((rd_T30 l0 x19_1).f0),.int .i64 4194304] (by rfl) rfl rfl (by (try simp only [List.map_toArray,List.map_cons,List.map_nil]);first|done|rfl|(simp only [List.length_drop,List.length_take];rfl)) ?_
       with_reducible refine (convex_limit.calls ((rd_T30 l0 x19_1).f0) 4194304 t173 _ A12.out).mono ?_
       rintro e w20 ⟨rfl,hb⟩
       refine ⟨_,rfl,?_⟩
       have n0_:=Aside0.mk (blk_below (g:=gb168) (o:=.cells #[.int .i64 a1_0,.int .i64 a1_1] 30 (0,0)) (by (with_reducible repeat (first|refine kn_ ?_ _|refine kd_ ?_|refine ka_ ?_ _));exact BK168.out) hb)
       have n1_:=Aside0.mk (blk_below (g:=gb172) (o:=.cells #[.int .i64 ((rd_T30 l0 x19_1).f0),.int .i64 ((rd_T30 l0 x19_1).f1)] 30 (0,0)) (by (with_reducible repeat (first|refine kn_ ?_ _|refine kd_ ?_|refine ka_ ?_ _));exact BK172.out) hb)
       have n2_:=Aside0.mk (below_step (by repeat (first|(with_reducible first|exact HB.out|apply ba_|apply bn_|apply bd_|refine below_set ?_ GE168.out|refine below_set ?_ GE172.out)|exact HB.out)) hb)
       clear BK168
       clear BK172
       clear HB
       have BK168:=n0_
       have BK172:=n1_
       have HB:=n2_
       clear n0_ n1_ n2_
       (try clear hb)
       (try clear hb2)
       (try clear hk)
       (try clear hi)
       refine hK.out _ _ ⟨(blk_cell BK172.out 0).trans rfl,(blk_cell BK172.out 1).trans rfl⟩ (fun hHeld=>?_)
       clear hK K
       refine norm_ (a':=?_) ?_ ?_
       rotate_left
       ·
        show Act.put _ (some 26) _ = _
        simp only [Act.put,la_,l0_,l1_,i64_w,i32_w]
        rfl
       refine pure_ (i:=4) (N:=some 28) (v:=?_) (a':=?_) #[true,true,true,true,true,true,true,false,true,false,false,false] rfl rfl (any_of HT_.out (by kernel_rfl)) (fun _ _ _ h=>h) (Or.inl ⟨by rfl,?_⟩) ?_ ?_
       rotate_left
       ·
        intro w'
        go_simp
        with_reducible rfl
       rotate_left
       ·
        simp only [Act.put,la_,l0_,l1_,i64_w,i32_w]
        rfl
       refine one_ (i:=7) (N:=some 31) #[true,true,true,true,true,true,true,true,true,false,false,false] rfl rfl (one_of HT_.out (by kernel_rfl)) (by decide) (fun K hK=>?_)
       refine goes_ Try.func34 (by kernel_rfl) rfl #[.int .i64 ((rd_T30 l0 x19_1).f1),.int .i64 4194304] (by rfl) rfl rfl (by (try simp only [List.map_toArray,List.map_cons,List.map_nil]);first|done|rfl|(simp only [List.length_drop,List.length_take];rfl)) ?_
       with_reducible refine (convex_limit.calls ((rd_T30 l0 x19_1).f1) 4194304 t174 _ A13.out).mono ?_
       rintro e w21 ⟨rfl,hb⟩
       refine ⟨_,rfl,?_⟩
       have n0_:=Aside0.mk (blk_below (g:=gb168) (o:=.cells #[.int .i64 a1_0,.int .i64 a1_1] 30 (0,0)) (by (with_reducible repeat (first|refine kn_ ?_ _|refine kd_ ?_|refine ka_ ?_ _));exact BK168.out) hb)
       have n1_:=Aside0.mk (blk_below (g:=gb172) (o:=.cells #[.int .i64 ((rd_T30 l0 x19_1).f0),.int .i64 ((rd_T30 l0 x19_1).f1)] 30 (0,0)) (by (with_reducible repeat (first|refine kn_ ?_ _|refine kd_ ?_|refine ka_ ?_ _));exact BK172.out) hb)
       have n2_:=Aside0.mk (below_step (by repeat (first|(with_reducible first|exact HB.out|apply ba_|apply bn_|apply bd_|refine below_set ?_ GE168.out|refine below_set ?_ GE172.out)|exact HB.out)) hb)
       clear BK168
       clear BK172
       clear HB
       have BK168:=n0_
       have BK172:=n1_
       have HB:=n2_
       clear n0_ n1_ n2_
       (try clear hb)
       (try clear hb2)
       (try clear hk)
       (try clear hi)
       refine hK.out _ _ ⟨(blk_cell BK172.out 0).trans rfl,(blk_cell BK172.out 1).trans rfl⟩ (fun hHeld=>?_)
       clear hK K
       refine norm_ (a':=?_) ?_ ?_
       rotate_left
       ·
        show Act.put _ (some 31) _ = _
        simp only [Act.put,la_,l0_,l1_,i64_w,i32_w]
        rfl
       refine pure_ (i:=9) (N:=some 33) (v:=?_) (a':=?_) #[true,true,true,true,true,true,true,true,true,true,false,false] rfl rfl (any_of HT_.out (by kernel_rfl)) (fun _ _ _ h=>h) (Or.inl ⟨by rfl,?_⟩) ?_ ?_
       rotate_left
       ·
        intro w'
        go_simp
        with_reducible rfl
       rotate_left
       ·
        simp only [Act.put,la_,l0_,l1_,i64_w,i32_w]
        rfl
       refine pure_ (i:=10) (N:=some 34) (v:=?_) (a':=?_) #[true,true,true,true,true,true,true,true,true,true,true,false] rfl rfl (any_of HT_.out (by kernel_rfl)) (fun _ _ _ h=>h) (Or.inl ⟨by rfl,?_⟩) ?_ ?_
       rotate_left
       ·
        intro w'
        go_simp
        with_reducible rfl
       rotate_left
       ·
        simp only [Act.put,la_,l0_,l1_,i64_w,i32_w]
        rfl
       refine pure_ (i:=11) (N:=some 10) (v:=?_) (a':=?_) #[true,true,true,true,true,true,true,true,true,true,true,true] rfl rfl (any_of HT_.out (by kernel_rfl)) (fun _ _ _ h=>h) (Or.inl ⟨by rfl,?_⟩) ?_ ?_
       rotate_left
       ·
        intro w'
        go_simp
        with_reducible rfl
       rotate_left
       ·
        simp only [Act.put,la_,l0_,l1_,i64_w,i32_w]
        rfl
       refine done_ (done_of HT_.out (by kernel_rfl)) ?_
       try go_wp2
       go_roundg k1
       case measure=>have:=HK1.out;omega
       case rel=>exact ⟨(wrap64 ((wrap64 (t173 * t169)) + (wrap64 (t174 * t170)))),(wrap64 (x19_1 + 1)),(by first|rfl|(simp;done)|(simp [*];done)),(by first|rfl|(simp;done)|(simp [*];done)),H',⟨by have:=HK1.out;omega⟩,⟨by (with_reducible repeat (first|refine kn_ ?_ _|refine kd_ ?_|refine ka_ ?_ _));exact BK168.out⟩,⟨by repeat (first|(with_reducible first|exact HB.out|apply ba_|apply bn_|apply bd_|refine below_set ?_ GE168.out|refine below_set ?_ GE172.out)|exact HB.out)⟩⟩
      rw [if_neg c14] at H
      have c14b0 : (x19_1 == 0) = false:=beq_eq_false_iff_ne.mpr c14
      have c14b1 : (x19_1 != 0) = true:=bne_iff_ne.mpr c14
      by_cases c22 : (wrap64 ((wrap64 (t173 * t169)) + (wrap64 (t174 * t170)))) > x7_1
      ·
       rw [if_pos c22] at H
       have c22b0 : decide (x7_1 < (wrap64 ((wrap64 (t173 * t169)) + (wrap64 (t174 * t170))))) = true:=decide_eq_true c22
       clear c22
       have H':=Aside0.mk H
       clear H
       have p171 : 0 ≤ (x19_1 : Int):=of_decide_eq_true (by first|(with_reducible assumption)|assumption)
       have q171 : x19_1 < (l0.length : Int):=of_decide_eq_true (by first|(with_reducible assumption)|assumption)
       obtain ⟨ad171,e171,hx171_0,hx171_1⟩:=at_T30 HR0.out x19_1 p171 q171
       cases e171
       replace hx171_0:=(HB.out.cell (bl_ w _ hx171_0)).trans hx171_0
       replace hx171_1:=(HB.out.cell (bl_ w _ hx171_1)).trans hx171_1
       replace p171:=eq_true p171
       replace q171:=eq_true q171
       try go_wp2_with (first|((with_reducible refine gate_dst (N:=9) rfl ?_);refine box_event ?hg (N:=9) ?hd (cs:=#[.int .i64 0,.int .i64 0]) (t:=30) ?hr ?_;(case hd=>rfl);(case hg=>rfl);(case hr=>first|(go_simp;done)|(go_simp;rfl));intro gb172 hg w23 hbox hb;have n0_:=Aside0.mk (blk_below (g:=gb168) (o:=.cells #[.int .i64 a1_0,.int .i64 a1_1] 30 (0,0)) (by (with_reducible repeat (first|refine kn_ ?_ _|refine kd_ ?_|refine ka_ ?_ _));exact BK168.out) hb);have n1_:=Aside0.mk (below_step (by repeat (first|(with_reducible first|exact HB.out|apply ba_|apply bn_|apply bd_|refine below_set ?_ GE168.out)|exact HB.out)) hb);have n2_:=Aside0.mk (hbox);have n3_:=Aside0.mk ((by rw [hg];exact (below_size (by repeat (first|(with_reducible first|exact HB.out|apply ba_|apply bn_|apply bd_|refine below_set ?_ GE168.out)|exact HB.out))) : w.heap.size ≤ gb172));have n4_:=Aside0.mk ((by rw [hg];exact (below_size (by repeat (first|(with_reducible first|exact HB.out|apply ba_|apply bn_|apply bd_|refine below_set ?_ GE168.out)|exact HB.out))) : w.heap.size ≤ gb172));have n5_:=Aside0.mk ((by rw [hg];exact Nat.ne_of_lt (blk_lt (g:=gb168) (o:=.cells #[.int .i64 a1_0,.int .i64 a1_1] 30 (0,0)) (by (with_reducible repeat (first|refine kn_ ?_ _|refine kd_ ?_|refine ka_ ?_ _));exact BK168.out)) : gb168 ≠ gb172));have n6_:=Aside0.mk ((by rw [hg];exact Nat.ne_of_gt (blk_lt (g:=gb168) (o:=.cells #[.int .i64 a1_0,.int .i64 a1_1] 30 (0,0)) (by (with_reducible repeat (first|refine kn_ ?_ _|refine kd_ ?_|refine ka_ ?_ _));exact BK168.out)) : gb172 ≠ gb168));clear BK168;clear HB;have BK168:=n0_;have HB:=n1_;have BK172:=n2_;have GW172:=n3_;have GE172:=n4_;have NB168_172:=n5_;have NB172_168:=n6_;clear n0_ n1_ n2_ n3_ n4_ n5_ n6_;clear hb hbox hg;have hnb24:=NB172_168.out;have hnc24:=NB168_172.out;have hcz25_0 : w23.cell? ⟨gb172,0,none⟩ = some (.int .i64 0):=(blk_cell BK172.out 0).trans rfl;have hcz25_1 : w23.cell? ⟨gb172,1,none⟩ = some (.int .i64 0):=(blk_cell BK172.out 1).trans rfl;have hfz25_0:=blk_frozen BK172.out 0;have hfz25_1:=blk_frozen BK172.out 1))
       have n0_ : Aside0 (((w23.setCell ⟨gb172,0,none⟩ (.int .i64 ((rd_T30 l0 x19_1).f0))).setCell ⟨gb172,1,none⟩ (.int .i64 ((rd_T30 l0 x19_1).f1))).heap[gb168]? = some (.cells #[.int .i64 a1_0,.int .i64 a1_1] 30 (0,0))):=⟨by (with_reducible repeat (first|refine kn_ ?_ _|refine kd_ ?_|refine ka_ ?_ _));refine blk_far ?_ NB168_172.out _;(with_reducible repeat (first|refine kn_ ?_ _|refine kd_ ?_|refine ka_ ?_ _));refine blk_far ?_ NB168_172.out _;(with_reducible repeat (first|refine kn_ ?_ _|refine kd_ ?_|refine ka_ ?_ _));exact BK168.out⟩
       have n1_ : Aside0 (((w23.setCell ⟨gb172,0,none⟩ (.int .i64 ((rd_T30 l0 x19_1).f0))).setCell ⟨gb172,1,none⟩ (.int .i64 ((rd_T30 l0 x19_1).f1))).heap[gb172]? = some (.cells #[.int .i64 ((rd_T30 l0 x19_1).f0),.int .i64 ((rd_T30 l0 x19_1).f1)] 30 (0,0))):=⟨by (with_reducible repeat (first|refine kn_ ?_ _|refine kd_ ?_|refine ka_ ?_ _));refine blk_put (cs:=#[.int .i64 ((rd_T30 l0 x19_1).f0),.int .i64 0]) ?_ 1 _ rfl;(with_reducible repeat (first|refine kn_ ?_ _|refine kd_ ?_|refine ka_ ?_ _));refine blk_put (cs:=#[.int .i64 0,.int .i64 0]) ?_ 0 _ rfl;(with_reducible repeat (first|refine kn_ ?_ _|refine kd_ ?_|refine ka_ ?_ _));exact BK172.out⟩
       have n2_ : Aside0 (Below w.heap.size w ((w23.setCell ⟨gb172,0,none⟩ (.int .i64 ((rd_T30 l0 x19_1).f0))).setCell ⟨gb172,1,none⟩ (.int .i64 ((rd_T30 l0 x19_1).f1)))):=⟨by repeat (first|(with_reducible first|exact HB.out|apply ba_|apply bn_|apply bd_|refine below_set ?_ GE168.out|refine below_set ?_ GE172.out)|exact HB.out)⟩
       (try clear BK168)
       (try clear BK172)
       (try clear HB)
       generalize ((w23.setCell ⟨gb172,0,none⟩ (.int .i64 ((rd_T30 l0 x19_1).f0))).setCell ⟨gb172,1,none⟩ (.int .i64 ((rd_T30 l0 x19_1).f1))) = w26 at n0_ n1_ n2_ ⊢
       have BK168:=n0_
       have BK172:=n1_
       have HB:=n2_
       clear n0_ n1_ n2_
       have n0_:=Aside0.mk (kd_ BK168.out)
       have n1_:=Aside0.mk (kd_ BK172.out)
       have n2_:=Aside0.mk (bd_ HB.out)
       clear BK168
       clear BK172
       clear HB
       have BK168:=n0_
       have BK172:=n1_
       have HB:=n2_
       clear n0_ n1_ n2_
       refine start_ (n:=12) (S:=fun w'=>w'.cell? ⟨gb172,0,none⟩ = some (.int .i64 ((rd_T30 l0 x19_1).f0))∧w'.cell? ⟨gb172,1,none⟩ = some (.int .i64 ((rd_T30 l0 x19_1).f1))) (ds:=[]) #[false,false,false,false,false,false,false,false,false,false,false,false] (by kernel_rfl) rfl rfl ⟨(blk_cell BK172.out 0).trans rfl,(blk_cell BK172.out 1).trans rfl⟩ (fun hHeld=>?_);refine with_tabW convex_Support.tab6 convex_Support.bits6 (fun HT_ HW_=>?_)
       generalize w26.drew = w27 at BK168 BK172 HB hHeld ⊢
       refine pure_ (i:=0) (N:=some 24) (v:=?_) (a':=?_) #[true,false,false,false,false,false,false,false,false,false,false,false] rfl rfl (any_of HT_.out (by kernel_rfl)) (fun _ _ _ h=>h) (Or.inl ⟨by rfl,?_⟩) ?_ ?_
       rotate_left
       ·
        intro w'
        go_simp
        with_reducible rfl
       rotate_left
       ·
        simp only [Act.put,la_,l0_,l1_,i64_w,i32_w]
        rfl
       refine pure_ (i:=3) (N:=some 27) (v:=?_) (a':=?_) #[true,false,false,true,false,false,false,false,false,false,false,false] rfl rfl (any_of HT_.out (by kernel_rfl)) (fun _ _ _ h=>h) (Or.inl ⟨by rfl,?_⟩) ?_ ?_
       rotate_left
       ·
        intro w'
        go_simp
        with_reducible rfl
       rotate_left
       ·
        simp only [Act.put,la_,l0_,l1_,i64_w,i32_w]
        rfl
       refine pure_ (i:=5) (N:=some 29) (v:=?_) (a':=?_) #[true,false,false,true,false,true,false,false,false,false,false,false] rfl rfl (any_of HT_.out (by kernel_rfl)) (fun _ _ _ h=>h) (Or.inl ⟨by rfl,?_⟩) ?_ ?_
       rotate_left
       ·
        intro w'
        go_simp
        with_reducible rfl
       rotate_left
       ·
        simp only [Act.put,la_,l0_,l1_,i64_w,i32_w]
        rfl
       refine pure_ (i:=8) (N:=some 32) (v:=?_) (a':=?_) #[true,false,false,true,false,true,false,false,true,false,false,false] rfl rfl (any_of HT_.out (by kernel_rfl)) (fun _ _ _ h=>h) (Or.inl ⟨by rfl,?_⟩) ?_ ?_
       rotate_left
       ·
        intro w'
        go_simp
        with_reducible rfl
       rotate_left
       ·
        simp only [Act.put,la_,l0_,l1_,i64_w,i32_w]
        rfl
       refine take_ (i:=1) (N:=some 25) (v:=?_) (a':=?_) #[true,true,false,true,false,true,false,false,true,false,false,false] rfl rfl (take_ofW HT_.out HW_.out (by kernel_rfl)) (fun _ _ _ h=>h) (Or.inl ⟨by rfl,?_⟩) hHeld ?_ ?_
       rotate_left
       ·
        rintro w' ⟨s0,s1⟩
        go_simp
        with_reducible rfl
       rotate_left
       ·
        simp only [Act.put,la_,l0_,l1_,i64_w,i32_w]
        rfl
       refine take_ (i:=6) (N:=some 30) (v:=?_) (a':=?_) #[true,true,false,true,false,true,true,false,true,false,false,false] rfl rfl (take_ofW HT_.out HW_.out (by kernel_rfl)) (fun _ _ _ h=>h) (Or.inl ⟨by rfl,?_⟩) hHeld ?_ ?_
       rotate_left
       ·
        rintro w' ⟨s0,s1⟩
        go_simp
        with_reducible rfl
       rotate_left
       ·
        simp only [Act.put,la_,l0_,l1_,i64_w,i32_w]
        rfl
       refine one_ (i:=2) (N:=some 26) #[true,true,true,true,false,true,true,false,true,false,false,false] rfl rfl (one_of HT_.out (by kernel_rfl)) (by decide) (fun K hK=>?_)
       refine goes_ Try.func34 (by kernel_rfl) rfl #[.int .i64 ((rd_T30 l0 x19_1).f0),.int .i64 4194304] (by rfl) rfl rfl (by (try simp only [List.map_toArray,List.map_cons,List.map_nil]);first|done|rfl|(simp only [List.length_drop,List.length_take];rfl)) ?_
       with_reducible refine (convex_limit.calls ((rd_T30 l0 x19_1).f0) 4194304 t173 _ A12.out).mono ?_
       rintro e w28 ⟨rfl,hb⟩
       refine ⟨_,rfl,?_⟩
       have n0_:=Aside0.mk (blk_below (g:=gb168) (o:=.cells #[.int .i64 a1_0,.int .i64 a1_1] 30 (0,0)) (by (with_reducible repeat (first|refine kn_ ?_ _|refine kd_ ?_|refine ka_ ?_ _));exact BK168.out) hb)
       have n1_:=Aside0.mk (blk_below (g:=gb172) (o:=.cells #[.int .i64 ((rd_T30 l0 x19_1).f0),.int .i64 ((rd_T30 l0 x19_1).f1)] 30 (0,0)) (by (with_reducible repeat (first|refine kn_ ?_ _|refine kd_ ?_|refine ka_ ?_ _));exact BK172.out) hb)
       have n2_:=Aside0.mk (below_step (by repeat (first|(with_reducible first|exact HB.out|apply ba_|apply bn_|apply bd_|refine below_set ?_ GE168.out|refine below_set ?_ GE172.out)|exact HB.out)) hb)
       clear BK168
       clear BK172
       clear HB
       have BK168:=n0_
       have BK172:=n1_
       have HB:=n2_
       clear n0_ n1_ n2_
       (try clear hb)
       (try clear hb2)
       (try clear hk)
       (try clear hi)
       refine hK.out _ _ ⟨(blk_cell BK172.out 0).trans rfl,(blk_cell BK172.out 1).trans rfl⟩ (fun hHeld=>?_)
       clear hK K
       refine norm_ (a':=?_) ?_ ?_
       rotate_left
       ·
        show Act.put _ (some 26) _ = _
        simp only [Act.put,la_,l0_,l1_,i64_w,i32_w]
        rfl
       refine pure_ (i:=4) (N:=some 28) (v:=?_) (a':=?_) #[true,true,true,true,true,true,true,false,true,false,false,false] rfl rfl (any_of HT_.out (by kernel_rfl)) (fun _ _ _ h=>h) (Or.inl ⟨by rfl,?_⟩) ?_ ?_
       rotate_left
       ·
        intro w'
        go_simp
        with_reducible rfl
       rotate_left
       ·
        simp only [Act.put,la_,l0_,l1_,i64_w,i32_w]
        rfl
       refine one_ (i:=7) (N:=some 31) #[true,true,true,true,true,true,true,true,true,false,false,false] rfl rfl (one_of HT_.out (by kernel_rfl)) (by decide) (fun K hK=>?_)
       refine goes_ Try.func34 (by kernel_rfl) rfl #[.int .i64 ((rd_T30 l0 x19_1).f1),.int .i64 4194304] (by rfl) rfl rfl (by (try simp only [List.map_toArray,List.map_cons,List.map_nil]);first|done|rfl|(simp only [List.length_drop,List.length_take];rfl)) ?_
       with_reducible refine (convex_limit.calls ((rd_T30 l0 x19_1).f1) 4194304 t174 _ A13.out).mono ?_
       rintro e w29 ⟨rfl,hb⟩
       refine ⟨_,rfl,?_⟩
       have n0_:=Aside0.mk (blk_below (g:=gb168) (o:=.cells #[.int .i64 a1_0,.int .i64 a1_1] 30 (0,0)) (by (with_reducible repeat (first|refine kn_ ?_ _|refine kd_ ?_|refine ka_ ?_ _));exact BK168.out) hb)
       have n1_:=Aside0.mk (blk_below (g:=gb172) (o:=.cells #[.int .i64 ((rd_T30 l0 x19_1).f0),.int .i64 ((rd_T30 l0 x19_1).f1)] 30 (0,0)) (by (with_reducible repeat (first|refine kn_ ?_ _|refine kd_ ?_|refine ka_ ?_ _));exact BK172.out) hb)
       have n2_:=Aside0.mk (below_step (by repeat (first|(with_reducible first|exact HB.out|apply ba_|apply bn_|apply bd_|refine below_set ?_ GE168.out|refine below_set ?_ GE172.out)|exact HB.out)) hb)
       clear BK168
       clear BK172
       clear HB
       have BK168:=n0_
       have BK172:=n1_
       have HB:=n2_
       clear n0_ n1_ n2_
       (try clear hb)
       (try clear hb2)
       (try clear hk)
       (try clear hi)
       refine hK.out _ _ ⟨(blk_cell BK172.out 0).trans rfl,(blk_cell BK172.out 1).trans rfl⟩ (fun hHeld=>?_)
       clear hK K
       refine norm_ (a':=?_) ?_ ?_
       rotate_left
       ·
        show Act.put _ (some 31) _ = _
        simp only [Act.put,la_,l0_,l1_,i64_w,i32_w]
        rfl
       refine pure_ (i:=9) (N:=some 33) (v:=?_) (a':=?_) #[true,true,true,true,true,true,true,true,true,true,false,false] rfl rfl (any_of HT_.out (by kernel_rfl)) (fun _ _ _ h=>h) (Or.inl ⟨by rfl,?_⟩) ?_ ?_
       rotate_left
       ·
        intro w'
        go_simp
        with_reducible rfl
       rotate_left
       ·
        simp only [Act.put,la_,l0_,l1_,i64_w,i32_w]
        rfl
       refine pure_ (i:=10) (N:=some 34) (v:=?_) (a':=?_) #[true,true,true,true,true,true,true,true,true,true,true,false] rfl rfl (any_of HT_.out (by kernel_rfl)) (fun _ _ _ h=>h) (Or.inl ⟨by rfl,?_⟩) ?_ ?_
       rotate_left
       ·
        intro w'
        go_simp
        with_reducible rfl
       rotate_left
       ·
        simp only [Act.put,la_,l0_,l1_,i64_w,i32_w]
        rfl
       refine pure_ (i:=11) (N:=some 10) (v:=?_) (a':=?_) #[true,true,true,true,true,true,true,true,true,true,true,true] rfl rfl (any_of HT_.out (by kernel_rfl)) (fun _ _ _ h=>h) (Or.inl ⟨by rfl,?_⟩) ?_ ?_
       rotate_left
       ·
        intro w'
        go_simp
        with_reducible rfl
       rotate_left
       ·
        simp only [Act.put,la_,l0_,l1_,i64_w,i32_w]
        rfl
       refine done_ (done_of HT_.out (by kernel_rfl)) ?_
       try go_wp2
       go_roundg k1
       case measure=>have:=HK1.out;omega
       case rel=>exact ⟨(wrap64 ((wrap64 (t173 * t169)) + (wrap64 (t174 * t170)))),(wrap64 (x19_1 + 1)),(by first|rfl|(simp;done)|(simp [*];done)),(by first|rfl|(simp;done)|(simp [*];done)),H',⟨by have:=HK1.out;omega⟩,⟨by (with_reducible repeat (first|refine kn_ ?_ _|refine kd_ ?_|refine ka_ ?_ _));exact BK168.out⟩,⟨by repeat (first|(with_reducible first|exact HB.out|apply ba_|apply bn_|apply bd_|refine below_set ?_ GE168.out|refine below_set ?_ GE172.out)|exact HB.out)⟩⟩
      rw [if_neg c22] at H
      have c22b0 : decide (x7_1 < (wrap64 ((wrap64 (t173 * t169)) + (wrap64 (t174 * t170))))) = false:=decide_eq_false c22
      clear c22
      have H':=Aside0.mk H
      clear H
      have p171 : 0 ≤ (x19_1 : Int):=of_decide_eq_true (by first|(with_reducible assumption)|assumption)
      have q171 : x19_1 < (l0.length : Int):=of_decide_eq_true (by first|(with_reducible assumption)|assumption)
      obtain ⟨ad171,e171,hx171_0,hx171_1⟩:=at_T30 HR0.out x19_1 p171 q171
      cases e171
      replace hx171_0:=(HB.out.cell (bl_ w _ hx171_0)).trans hx171_0
      replace hx171_1:=(HB.out.cell (bl_ w _ hx171_1)).trans hx171_1
      replace p171:=eq_true p171
      replace q171:=eq_true q171
      try go_wp2_with (first|((with_reducible refine gate_dst (N:=9) rfl ?_);refine box_event ?hg (N:=9) ?hd (cs:=#[.int .i64 0,.int .i64 0]) (t:=30) ?hr ?_;(case hd=>rfl);(case hg=>rfl);(case hr=>first|(go_simp;done)|(go_simp;rfl));intro gb172 hg w30 hbox hb;have n0_:=Aside0.mk (blk_below (g:=gb168) (o:=.cells #[.int .i64 a1_0,.int .i64 a1_1] 30 (0,0)) (by (with_reducible repeat (first|refine kn_ ?_ _|refine kd_ ?_|refine ka_ ?_ _));exact BK168.out) hb);have n1_:=Aside0.mk (below_step (by repeat (first|(with_reducible first|exact HB.out|apply ba_|apply bn_|apply bd_|refine below_set ?_ GE168.out)|exact HB.out)) hb);have n2_:=Aside0.mk (hbox);have n3_:=Aside0.mk ((by rw [hg];exact (below_size (by repeat (first|(with_reducible first|exact HB.out|apply ba_|apply bn_|apply bd_|refine below_set ?_ GE168.out)|exact HB.out))) : w.heap.size ≤ gb172));have n4_:=Aside0.mk ((by rw [hg];exact (below_size (by repeat (first|(with_reducible first|exact HB.out|apply ba_|apply bn_|apply bd_|refine below_set ?_ GE168.out)|exact HB.out))) : w.heap.size ≤ gb172));have n5_:=Aside0.mk ((by rw [hg];exact Nat.ne_of_lt (blk_lt (g:=gb168) (o:=.cells #[.int .i64 a1_0,.int .i64 a1_1] 30 (0,0)) (by (with_reducible repeat (first|refine kn_ ?_ _|refine kd_ ?_|refine ka_ ?_ _));exact BK168.out)) : gb168 ≠ gb172));have n6_:=Aside0.mk ((by rw [hg];exact Nat.ne_of_gt (blk_lt (g:=gb168) (o:=.cells #[.int .i64 a1_0,.int .i64 a1_1] 30 (0,0)) (by (with_reducible repeat (first|refine kn_ ?_ _|refine kd_ ?_|refine ka_ ?_ _));exact BK168.out)) : gb172 ≠ gb168));clear BK168;clear HB;have BK168:=n0_;have HB:=n1_;have BK172:=n2_;have GW172:=n3_;have GE172:=n4_;have NB168_172:=n5_;have NB172_168:=n6_;clear n0_ n1_ n2_ n3_ n4_ n5_ n6_;clear hb hbox hg;have hnb31:=NB172_168.out;have hnc31:=NB168_172.out;have hcz32_0 : w30.cell? ⟨gb172,0,none⟩ = some (.int .i64 0):=(blk_cell BK172.out 0).trans rfl;have hcz32_1 : w30.cell? ⟨gb172,1,none⟩ = some (.int .i64 0):=(blk_cell BK172.out 1).trans rfl;have hfz32_0:=blk_frozen BK172.out 0;have hfz32_1:=blk_frozen BK172.out 1))
      have n0_ : Aside0 (((w30.setCell ⟨gb172,0,none⟩ (.int .i64 ((rd_T30 l0 x19_1).f0))).setCell ⟨gb172,1,none⟩ (.int .i64 ((rd_T30 l0 x19_1).f1))).heap[gb168]? = some (.cells #[.int .i64 a1_0,.int .i64 a1_1] 30 (0,0))):=⟨by (with_reducible repeat (first|refine kn_ ?_ _|refine kd_ ?_|refine ka_ ?_ _));refine blk_far ?_ NB168_172.out _;(with_reducible repeat (first|refine kn_ ?_ _|refine kd_ ?_|refine ka_ ?_ _));refine blk_far ?_ NB168_172.out _;(with_reducible repeat (first|refine kn_ ?_ _|refine kd_ ?_|refine ka_ ?_ _));exact BK168.out⟩
      have n1_ : Aside0 (((w30.setCell ⟨gb172,0,none⟩ (.int .i64 ((rd_T30 l0 x19_1).f0))).setCell ⟨gb172,1,none⟩ (.int .i64 ((rd_T30 l0 x19_1).f1))).heap[gb172]? = some (.cells #[.int .i64 ((rd_T30 l0 x19_1).f0),.int .i64 ((rd_T30 l0 x19_1).f1)] 30 (0,0))):=⟨by (with_reducible repeat (first|refine kn_ ?_ _|refine kd_ ?_|refine ka_ ?_ _));refine blk_put (cs:=#[.int .i64 ((rd_T30 l0 x19_1).f0),.int .i64 0]) ?_ 1 _ rfl;(with_reducible repeat (first|refine kn_ ?_ _|refine kd_ ?_|refine ka_ ?_ _));refine blk_put (cs:=#[.int .i64 0,.int .i64 0]) ?_ 0 _ rfl;(with_reducible repeat (first|refine kn_ ?_ _|refine kd_ ?_|refine ka_ ?_ _));exact BK172.out⟩
      have n2_ : Aside0 (Below w.heap.size w ((w30.setCell ⟨gb172,0,none⟩ (.int .i64 ((rd_T30 l0 x19_1).f0))).setCell ⟨gb172,1,none⟩ (.int .i64 ((rd_T30 l0 x19_1).f1)))):=⟨by repeat (first|(with_reducible first|exact HB.out|apply ba_|apply bn_|apply bd_|refine below_set ?_ GE168.out|refine below_set ?_ GE172.out)|exact HB.out)⟩
      (try clear BK168)
      (try clear BK172)
      (try clear HB)
      generalize ((w30.setCell ⟨gb172,0,none⟩ (.int .i64 ((rd_T30 l0 x19_1).f0))).setCell ⟨gb172,1,none⟩ (.int .i64 ((rd_T30 l0 x19_1).f1))) = w33 at n0_ n1_ n2_ ⊢
      have BK168:=n0_
      have BK172:=n1_
      have HB:=n2_
      clear n0_ n1_ n2_
      have n0_:=Aside0.mk (kd_ BK168.out)
      have n1_:=Aside0.mk (kd_ BK172.out)
      have n2_:=Aside0.mk (bd_ HB.out)
      clear BK168
      clear BK172
      clear HB
      have BK168:=n0_
      have BK172:=n1_
      have HB:=n2_
      clear n0_ n1_ n2_
      refine start_ (n:=12) (S:=fun w'=>w'.cell? ⟨gb172,0,none⟩ = some (.int .i64 ((rd_T30 l0 x19_1).f0))∧w'.cell? ⟨gb172,1,none⟩ = some (.int .i64 ((rd_T30 l0 x19_1).f1))) (ds:=[]) #[false,false,false,false,false,false,false,false,false,false,false,false] (by kernel_rfl) rfl rfl ⟨(blk_cell BK172.out 0).trans rfl,(blk_cell BK172.out 1).trans rfl⟩ (fun hHeld=>?_);refine with_tabW convex_Support.tab6 convex_Support.bits6 (fun HT_ HW_=>?_)
      generalize w33.drew = w34 at BK168 BK172 HB hHeld ⊢
      refine pure_ (i:=0) (N:=some 24) (v:=?_) (a':=?_) #[true,false,false,false,false,false,false,false,false,false,false,false] rfl rfl (any_of HT_.out (by kernel_rfl)) (fun _ _ _ h=>h) (Or.inl ⟨by rfl,?_⟩) ?_ ?_
      rotate_left
      ·
       intro w'
       go_simp
       with_reducible rfl
      rotate_left
      ·
       simp only [Act.put,la_,l0_,l1_,i64_w,i32_w]
       rfl
      refine pure_ (i:=3) (N:=some 27) (v:=?_) (a':=?_) #[true,false,false,true,false,false,false,false,false,false,false,false] rfl rfl (any_of HT_.out (by kernel_rfl)) (fun _ _ _ h=>h) (Or.inl ⟨by rfl,?_⟩) ?_ ?_
      rotate_left
      ·
       intro w'
       go_simp
       with_reducible rfl
      rotate_left
      ·
       simp only [Act.put,la_,l0_,l1_,i64_w,i32_w]
       rfl
      refine pure_ (i:=5) (N:=some 29) (v:=?_) (a':=?_) #[true,false,false,true,false,true,false,false,false,false,false,false] rfl rfl (any_of HT_.out (by kernel_rfl)) (fun _ _ _ h=>h) (Or.inl ⟨by rfl,?_⟩) ?_ ?_
      rotate_left
      ·
       intro w'
       go_simp
       with_reducible rfl
      rotate_left
      ·
       simp only [Act.put,la_,l0_,l1_,i64_w,i32_w]
       rfl
      refine pure_ (i:=8) (N:=some 32) (v:=?_) (a':=?_) #[true,false,false,true,false,true,false,false,true,false,false,false] rfl rfl (any_of HT_.out (by kernel_rfl)) (fun _ _ _ h=>h) (Or.inl ⟨by rfl,?_⟩) ?_ ?_
      rotate_left
      ·
       intro w'
       go_simp
       with_reducible rfl
      rotate_left
      ·
       simp only [Act.put,la_,l0_,l1_,i64_w,i32_w]
       rfl
      refine take_ (i:=1) (N:=some 25) (v:=?_) (a':=?_) #[true,true,false,true,false,true,false,false,true,false,false,false] rfl rfl (take_ofW HT_.out HW_.out (by kernel_rfl)) (fun _ _ _ h=>h) (Or.inl ⟨by rfl,?_⟩) hHeld ?_ ?_
      rotate_left
      ·
       rintro w' ⟨s0,s1⟩
       go_simp
       with_reducible rfl
      rotate_left
      ·
       simp only [Act.put,la_,l0_,l1_,i64_w,i32_w]
       rfl
      refine take_ (i:=6) (N:=some 30) (v:=?_) (a':=?_) #[true,true,false,true,false,true,true,false,true,false,false,false] rfl rfl (take_ofW HT_.out HW_.out (by kernel_rfl)) (fun _ _ _ h=>h) (Or.inl ⟨by rfl,?_⟩) hHeld ?_ ?_
      rotate_left
      ·
       rintro w' ⟨s0,s1⟩
       go_simp
       with_reducible rfl
      rotate_left
      ·
       simp only [Act.put,la_,l0_,l1_,i64_w,i32_w]
       rfl
      refine one_ (i:=2) (N:=some 26) #[true,true,true,true,false,true,true,false,true,false,false,false] rfl rfl (one_of HT_.out (by kernel_rfl)) (by decide) (fun K hK=>?_)
      refine goes_ Try.func34 (by kernel_rfl) rfl #[.int .i64 ((rd_T30 l0 x19_1).f0),.int .i64 4194304] (by rfl) rfl rfl (by (try simp only [List.map_toArray,List.map_cons,List.map_nil]);first|done|rfl|(simp only [List.length_drop,List.length_take];rfl)) ?_
      with_reducible refine (convex_limit.calls ((rd_T30 l0 x19_1).f0) 4194304 t173 _ A12.out).mono ?_
      rintro e w35 ⟨rfl,hb⟩
      refine ⟨_,rfl,?_⟩
      have n0_:=Aside0.mk (blk_below (g:=gb168) (o:=.cells #[.int .i64 a1_0,.int .i64 a1_1] 30 (0,0)) (by (with_reducible repeat (first|refine kn_ ?_ _|refine kd_ ?_|refine ka_ ?_ _));exact BK168.out) hb)
      have n1_:=Aside0.mk (blk_below (g:=gb172) (o:=.cells #[.int .i64 ((rd_T30 l0 x19_1).f0),.int .i64 ((rd_T30 l0 x19_1).f1)] 30 (0,0)) (by (with_reducible repeat (first|refine kn_ ?_ _|refine kd_ ?_|refine ka_ ?_ _));exact BK172.out) hb)
      have n2_:=Aside0.mk (below_step (by repeat (first|(with_reducible first|exact HB.out|apply ba_|apply bn_|apply bd_|refine below_set ?_ GE168.out|refine below_set ?_ GE172.out)|exact HB.out)) hb)
      clear BK168
      clear BK172
      clear HB
      have BK168:=n0_
      have BK172:=n1_
      have HB:=n2_
      clear n0_ n1_ n2_
      (try clear hb)
      (try clear hb2)
      (try clear hk)
      (try clear hi)
      refine hK.out _ _ ⟨(blk_cell BK172.out 0).trans rfl,(blk_cell BK172.out 1).trans rfl⟩ (fun hHeld=>?_)
      clear hK K
      refine norm_ (a':=?_) ?_ ?_
      rotate_left
      ·
       show Act.put _ (some 26) _ = _
       simp only [Act.put,la_,l0_,l1_,i64_w,i32_w]
       rfl
      refine pure_ (i:=4) (N:=some 28) (v:=?_) (a':=?_) #[true,true,true,true,true,true,true,false,true,false,false,false] rfl rfl (any_of HT_.out (by kernel_rfl)) (fun _ _ _ h=>h) (Or.inl ⟨by rfl,?_⟩) ?_ ?_
      rotate_left
      ·
       intro w'
       go_simp
       with_reducible rfl
      rotate_left
      ·
       simp only [Act.put,la_,l0_,l1_,i64_w,i32_w]
       rfl
      refine one_ (i:=7) (N:=some 31) #[true,true,true,true,true,true,true,true,true,false,false,false] rfl rfl (one_of HT_.out (by kernel_rfl)) (by decide) (fun K hK=>?_)
      refine goes_ Try.func34 (by kernel_rfl) rfl #[.int .i64 ((rd_T30 l0 x19_1).f1),.int .i64 4194304] (by rfl) rfl rfl (by (try simp only [List.map_toArray,List.map_cons,List.map_nil]);first|done|rfl|(simp only [List.length_drop,List.length_take];rfl)) ?_
      with_reducible refine (convex_limit.calls ((rd_T30 l0 x19_1).f1) 4194304 t174 _ A13.out).mono ?_
      rintro e w36 ⟨rfl,hb⟩
      refine ⟨_,rfl,?_⟩
      have n0_:=Aside0.mk (blk_below (g:=gb168) (o:=.cells #[.int .i64 a1_0,.int .i64 a1_1] 30 (0,0)) (by (with_reducible repeat (first|refine kn_ ?_ _|refine kd_ ?_|refine ka_ ?_ _));exact BK168.out) hb)
      have n1_:=Aside0.mk (blk_below (g:=gb172) (o:=.cells #[.int .i64 ((rd_T30 l0 x19_1).f0),.int .i64 ((rd_T30 l0 x19_1).f1)] 30 (0,0)) (by (with_reducible repeat (first|refine kn_ ?_ _|refine kd_ ?_|refine ka_ ?_ _));exact BK172.out) hb)
      have n2_:=Aside0.mk (below_step (by repeat (first|(with_reducible first|exact HB.out|apply ba_|apply bn_|apply bd_|refine below_set ?_ GE168.out|refine below_set ?_ GE172.out)|exact HB.out)) hb)
      clear BK168
      clear BK172
      clear HB
      have BK168:=n0_
      have BK172:=n1_
      have HB:=n2_
      clear n0_ n1_ n2_
      (try clear hb)
      (try clear hb2)
      (try clear hk)
      (try clear hi)
      refine hK.out _ _ ⟨(blk_cell BK172.out 0).trans rfl,(blk_cell BK172.out 1).trans rfl⟩ (fun hHeld=>?_)
      clear hK K
      refine norm_ (a':=?_) ?_ ?_
      rotate_left
      ·
       show Act.put _ (some 31) _ = _
       simp only [Act.put,la_,l0_,l1_,i64_w,i32_w]
       rfl
      refine pure_ (i:=9) (N:=some 33) (v:=?_) (a':=?_) #[true,true,true,true,true,true,true,true,true,true,false,false] rfl rfl (any_of HT_.out (by kernel_rfl)) (fun _ _ _ h=>h) (Or.inl ⟨by rfl,?_⟩) ?_ ?_
      rotate_left
      ·
       intro w'
       go_simp
       with_reducible rfl
      rotate_left
      ·
       simp only [Act.put,la_,l0_,l1_,i64_w,i32_w]
       rfl
      refine pure_ (i:=10) (N:=some 34) (v:=?_) (a':=?_) #[true,true,true,true,true,true,true,true,true,true,true,false] rfl rfl (any_of HT_.out (by kernel_rfl)) (fun _ _ _ h=>h) (Or.inl ⟨by rfl,?_⟩) ?_ ?_
      rotate_left
      ·
       intro w'
       go_simp
       with_reducible rfl
      rotate_left
      ·
       simp only [Act.put,la_,l0_,l1_,i64_w,i32_w]
       rfl
      refine pure_ (i:=11) (N:=some 10) (v:=?_) (a':=?_) #[true,true,true,true,true,true,true,true,true,true,true,true] rfl rfl (any_of HT_.out (by kernel_rfl)) (fun _ _ _ h=>h) (Or.inl ⟨by rfl,?_⟩) ?_ ?_
      rotate_left
      ·
       intro w'
       go_simp
       with_reducible rfl
      rotate_left
      ·
       simp only [Act.put,la_,l0_,l1_,i64_w,i32_w]
       rfl
      refine done_ (done_of HT_.out (by kernel_rfl)) ?_
      try go_wp2
      go_roundg k1
      case measure=>have:=HK1.out;omega
      case rel=>exact ⟨(x7_1),(wrap64 (x19_1 + 1)),(by first|rfl|(simp;done)|(simp [*];done)),(by first|rfl|(simp;done)|(simp [*];done)),H',⟨by have:=HK1.out;omega⟩,⟨by (with_reducible repeat (first|refine kn_ ?_ _|refine kd_ ?_|refine ka_ ?_ _));exact BK168.out⟩,⟨by repeat (first|(with_reducible first|exact HB.out|apply ba_|apply bn_|apply bd_|refine below_set ?_ GE168.out|refine below_set ?_ GE172.out)|exact HB.out)⟩⟩
     rw [if_neg c11] at H
     exact absurd H (by simp)
    rw [if_neg c10] at H
    exact absurd H (by simp)
   rw [if_neg c9] at H
   have c9b0 : decide (x19_1 < (l0.length : Int)) = false:=decide_eq_false c9
   clear c9
   obtain rfl:=Option.some.inj H
   go_wp2
   go_ret
   exact ⟨by first|rfl|(simp [errW_none,errW_some] <;> rfl)|(simp [*,errW_none,errW_some] <;> rfl),by repeat (first|(with_reducible first|exact HB.out|apply ba_|apply bn_|apply bd_|refine below_set ?_ GE168.out)|exact HB.out)⟩

end Go.Proofs.Ytlnigbhimdphoaa.C
