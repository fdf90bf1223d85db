-- PRINTED by print.py (a twelfth state) out of the translation. Not trusted: Lean checks it.
import Derived.Test.YtlnigbhimdphoaaCx0
import Derived.Test.YtlnigbhimdphoaaCx11
namespace Go.Proofs.Ytlnigbhimdphoaa.C
open Go.RowKit Go.Proofs.YtlnigbhimdphoaaW.PrintWords Go.Proofs.YtlnigbhimdphoaaW.PrintLast Go.Proofs.YtlnigbhimdphoaaW.PrintMore
attribute [local go_sem] max2_int min2_int max_two min_two max_three min_three max_four min_four Go.Proofs.Ytlnigbhimdphoaa.Aid.isSome_setCell   -- for this text's walks alone
set_option linter.unusedVariables false
set_option linter.unusedSimpArgs false

/-! ### garmentref14_Interior: function 33 -/
def garmentref14_Interior.l0 : Nat → List (S30) → Int → Int → Int → Option (Bool)
 | 0,_,_,_,_=>none
 | k + 1,x0,x5,x317000,x317001=>if x5 < (x0.length : Int) then (if 0 ≤ x5 then (if (x0.length : Int) = 0 then (none) else (if 0 ≤ (Int.tmod (wrap64 (x5 + 1)) (x0.length : Int)) then (if (Int.tmod (wrap64 (x5 + 1)) (x0.length : Int)) < (x0.length : Int) then ((garmentref11_Cross.f ((rd_T30 x0 x5).f0) ((rd_T30 x0 x5).f1) ((rd_T30 x0 (Int.tmod (wrap64 (x5 + 1)) (x0.length : Int))).f0) ((rd_T30 x0 (Int.tmod (wrap64 (x5 + 1)) (x0.length : Int))).f1) x317000 x317001).bind fun t320=>(if t320 ≤ 0 then (some false) else (garmentref14_Interior.l0 k x0 (wrap64 (x5 + 1)) x317000 x317001))) else (none)) else (none))) else (none)) else (some true)
def garmentref14_Interior.f (k : Nat) (l0 : List (S30)) (a1_0 : Int) (a1_1 : Int) : Option (Bool):=(garmentref11_Within.f a1_0 a1_1 4194304).bind fun t317=>(if t317 = true then (garmentref14_Interior.l0 k l0 0 a1_0 a1_1) else (some false))
theorem garmentref14_Interior.mono_l : ∀ k,(∀ y0 y1 y2 y3,LeO (garmentref14_Interior.l0 k y0 y1 y2 y3) (garmentref14_Interior.l0 (k + 1) y0 y1 y2 y3))
 | 0=>fun _ _ _ _ r h=>by simp [garmentref14_Interior.l0] at h
 | k + 1=>by
  have ih0:=garmentref14_Interior.mono_l k
  intro y0 y1 y2 y3
  unfold garmentref14_Interior.l0
  repeat' first
  | (with_reducible exact ih0 _ _ _ _)
  | (with_reducible exact LeO.refl _)
  | (with_reducible exact LeO.none _)
  | (with_reducible refine LeO.ite ?_ ?_)
  | (with_reducible refine LeO.bind ?_ (fun _=>?_))
  | exact ih0 _ _ _ _
  | exact LeO.none _
  | refine LeO.ite ?_ ?_
  | refine LeO.bind ?_ (fun _=>?_)
theorem garmentref14_Interior.mono : ∀ a0 a1 a2 k,LeO (garmentref14_Interior.f k a0 a1 a2) (garmentref14_Interior.f (k + 1) a0 a1 a2):=by
 intro a0 a1 a2 k
 have ih0:=garmentref14_Interior.mono_l k
 unfold garmentref14_Interior.f
 repeat' first
   | (with_reducible exact ih0 _ _ _ _)
   | (with_reducible exact LeO.refl _)
   | (with_reducible exact LeO.none _)
   | (with_reducible refine LeO.ite ?_ ?_)
   | (with_reducible refine LeO.bind ?_ (fun _=>?_))
   | exact ih0 _ _ _ _
   | exact LeO.none _
   | refine LeO.ite ?_ ?_
   | refine LeO.bind ?_ (fun _=>?_)
def garmentref14_Interior.T6 : Bool × List (List Nat × List Nat):=(true,[([],[]),([],[]),([0,1],[0,1]),([2],[2]),([],[]),([],[]),([5],[5]),([],[]),([7],[7]),([6,8],[6,8]),([4,9],[4,9]),([10],[10]),([],[]),([3,11,12],[3,11,12]),([13],[13])])
def garmentref14_Interior.B6 : List Nat:=[0,0,3,7,0,0,32,0,128,480,1008,2032,0,8191,16383]
theorem garmentref14_Interior.tab6 : rtab .any (opsOf Try.f33 6) = garmentref14_Interior.T6:=by kernel_rfl
theorem garmentref14_Interior.bits6 : waitsOk garmentref14_Interior.T6.2 garmentref14_Interior.B6 = true:=by kernel_rfl
set_option maxHeartbeats 8000000 in
set_option maxRecDepth 100000 in
theorem garmentref14_Interior.calls (k : Nat) (A0 : Option Addr) (c0 : Nat) (l0 : List (S30)) (a1_0 : Int) (a1_1 : Int) (r : Bool) (w : World) (hr0 : Kd.C k30 w A0 l0.length l0) (hc0 : l0.length ≤ c0) (h : garmentref14_Interior.f k l0 a1_0 a1_1 = some r) :
  Calls Try.prog 33 #[.slice A0 l0.length c0,.agg #[.int .i64 a1_0,.int .i64 a1_1]] w fun e w'=>e = .returned (.bool r)∧Below w.heap.size w w':=by
 have hu30:=Try.underlying30
 have HR0:=Aside0.mk hr0
 have HC0:=Aside0.mk hc0
 clear hr0 hc0
 have HB:=Aside0.mk (Below.refl w.heap.size w)
 have H : ((garmentref11_Within.f a1_0 a1_1 4194304).bind fun t317=>(if t317 = true then (garmentref14_Interior.l0 k l0 0 a1_0 a1_1) else (some false))) = some r:=h
 clear h
 replace H:=Option.bind_eq_some_iff.mp H
 obtain ⟨t317,A30,H⟩:=H
 replace H : (if t317 = true then (garmentref14_Interior.l0 k l0 0 a1_0 a1_1) else (some false)) = some r:=H
 have A3:=Aside0.mk A30
 clear A30
 by_cases c4 : t317 = true
 ·
  subst c4
  have H1 : (garmentref14_Interior.l0 k l0 0 a1_0 a1_1) = some r:=by rw [if_pos rfl] at H;exact H
  clear H
  have H:=H1
  clear H1
  have H':=Aside0.mk H
  clear H
  go_enter Try.func33,Try.ntmps33
  go_wp2_with (first|((with_reducible refine gate_dst (N:=3) rfl ?_);refine box_event ?hg (N:=3) ?hd (cs:=#[.int .i64 a1_0,.int .i64 a1_1]) (t:=30) ?hr ?_;(case hd=>rfl);(case hg=>rfl);(case hr=>first|(go_simp;done)|(go_simp;rfl));intro gb316 hg w5 hbox hb;have n0_:=Aside0.mk (below_step (by repeat (first|(with_reducible first|exact HB.out|apply ba_|apply bn_|apply bd_)|exact HB.out)) hb);have n1_:=Aside0.mk (hbox);have n2_:=Aside0.mk ((by rw [hg];exact (below_size (by repeat (first|(with_reducible first|exact HB.out|apply ba_|apply bn_|apply bd_)|exact HB.out))) : w.heap.size ≤ gb316));have n3_:=Aside0.mk ((by rw [hg];exact (below_size (by repeat (first|(with_reducible first|exact HB.out|apply ba_|apply bn_|apply bd_)|exact HB.out))) : w.heap.size ≤ gb316));clear HB;have HB:=n0_;have BK316:=n1_;have GW316:=n2_;have GE316:=n3_;clear n0_ n1_ n2_ n3_;clear hb hbox hg;have hcz6_0 : w5.cell? ⟨gb316,0,none⟩ = some (.int .i64 a1_0):=(blk_cell BK316.out 0).trans rfl;have hcz6_1 : w5.cell? ⟨gb316,1,none⟩ = some (.int .i64 a1_1):=(blk_cell BK316.out 1).trans rfl;have hfz6_0:=blk_frozen BK316.out 0;have hfz6_1:=blk_frozen BK316.out 1)|((with_reducible refine gate_callee (f:=21) rfl ?_);refine goesL_ (some 7) rfl rfl Try.func21 (by kernel_rfl) rfl #[.agg #[.int .i64 a1_0,.int .i64 a1_1],.int .i64 4194304] rfl (by (try simp only [List.map_toArray,List.map_cons,List.map_nil]);first|done|rfl|(simp only [List.length_drop,List.length_take];rfl)) ?_;(with_reducible refine (garmentref11_Within.calls a1_0 a1_1 4194304 true _ A3.out).mono ?_);rintro e w7 ⟨rfl,hb⟩;refine ⟨_,rfl,?_⟩;have n0_:=Aside0.mk (blk_below (g:=gb316) (o:=.cells #[.int .i64 a1_0,.int .i64 a1_1] 30 (0,0)) (by (with_reducible repeat (first|refine kn_ ?_ _|refine kd_ ?_|refine ka_ ?_ _));exact BK316.out) hb);have n1_:=Aside0.mk (below_step (by repeat (first|(with_reducible first|exact HB.out|apply ba_|apply bn_|apply bd_|refine below_set ?_ GE316.out)|exact HB.out)) hb);clear BK316;clear HB;have BK316:=n0_;have HB:=n1_;clear n0_ n1_;(try clear hb);(try clear hb2);(try clear hk);(try clear hi)))
  go_loopg [5] k (fun kq v5 w'=>∃ (x5_1 : Int),v5 = .int .i64 x5_1∧Aside0 (garmentref14_Interior.l0 kq l0 x5_1 a1_0 a1_1 = some r)∧Aside0 (kq ≤ k)∧Aside0 (w'.heap[gb316]? = some (.cells #[.int .i64 a1_0,.int .i64 a1_1] 30 (0,0)))∧Aside0 (Below w.heap.size w w'))
  case atStart=>exact ⟨(0),(by first|rfl|(simp;done)|(simp [*];done)),H',⟨Nat.le_refl _⟩,⟨by (with_reducible repeat (first|refine kn_ ?_ _|refine kd_ ?_|refine ka_ ?_ _));exact BK316.out⟩,⟨by repeat (first|(with_reducible first|exact HB.out|apply ba_|apply bn_|apply bd_|refine below_set ?_ GE316.out)|exact HB.out)⟩⟩
  case round =>
   clear H'
   try clear c2
   try clear p2
   try clear c3
   try clear c4
   try clear hcz6_0
   try clear hcz6_1
   try clear hfz6_0
   try clear hfz6_1
   obtain ⟨x5_1,rfl,HA,HK1,BK316,HB⟩:=hrel
   cases gk with
   | zero=>exact absurd HA.out (by simp [garmentref14_Interior.l0])
   | succ k1 =>
    have H:=HA.out
    clear HA
    simp only [garmentref14_Interior.l0] at H
    by_cases c8 : x5_1 < (l0.length : Int)
    ·
     rw [if_pos c8] at H
     have c8b0 : decide (x5_1 < (l0.length : Int)) = true:=decide_eq_true c8
     clear c8
     by_cases c9 : 0 ≤ x5_1
     ·
      rw [if_pos c9] at H
      have c9b0 : decide (0 ≤ x5_1) = true:=decide_eq_true c9
      clear c9
      by_cases c10 : (l0.length : Int) = 0
      ·
       rw [if_pos c10] at H
       exact absurd H (by simp)
      rw [if_neg c10] at H
      have c10b0 : ((l0.length : Int) == 0) = false:=beq_eq_false_iff_ne.mpr c10
      have c10b1 : ((l0.length : Int) != 0) = true:=bne_iff_ne.mpr c10
      have c10b2 : ¬ (l0 = []):=fun h_=>c10 (by rw [h_];rfl)
      obtain ⟨ji11,hji11⟩ : ∃ j_ : Int,(Int.tmod (wrap64 (x5_1 + 1)) (l0.length : Int)) = j_:=⟨_,rfl⟩
      replace H : (if 0 ≤ (ji11) then (if (ji11) < (l0.length : Int) then ((garmentref11_Cross.f ((rd_T30 l0 x5_1).f0) ((rd_T30 l0 x5_1).f1) ((rd_T30 l0 (ji11)).f0) ((rd_T30 l0 (ji11)).f1) a1_0 a1_1).bind fun t320=>(if t320 ≤ 0 then (some false) else (garmentref14_Interior.l0 k1 l0 (wrap64 (x5_1 + 1)) a1_0 a1_1))) else (none)) else (none)) = some r:=by first|(rw [hji11] at H;exact H)|(simp only [hji11] at H ⊢;exact H)
      by_cases c12 : 0 ≤ (ji11)
      ·
       rw [if_pos c12] at H
       have c12b0 : decide (0 ≤ (ji11)) = true:=decide_eq_true c12
       clear c12
       by_cases c13 : (ji11) < (l0.length : Int)
       ·
        rw [if_pos c13] at H
        have c13b0 : decide ((ji11) < (l0.length : Int)) = true:=decide_eq_true c13
        clear c13
        replace H:=Option.bind_eq_some_iff.mp H
        obtain ⟨t320,A140,H⟩:=H
        replace H : (if t320 ≤ 0 then (some false) else (garmentref14_Interior.l0 k1 l0 (wrap64 (x5_1 + 1)) a1_0 a1_1)) = some r:=H
        have A14:=Aside0.mk A140
        clear A140
        by_cases c15 : t320 ≤ 0
        ·
         rw [if_pos c15] at H
         have c15b0 : decide (t320 ≤ 0) = true:=decide_eq_true c15
         clear c15
         obtain rfl:=Option.some.inj H
         try go_wp2
         have n0_:=Aside0.mk (kd_ BK316.out)
         have n1_:=Aside0.mk (bd_ HB.out)
         clear BK316
         clear HB
         have BK316:=n0_
         have HB:=n1_
         clear n0_ n1_
         have p318 : 0 ≤ (x5_1 : Int):=of_decide_eq_true (by first|(with_reducible assumption)|assumption)
         have q318 : x5_1 < (l0.length : Int):=of_decide_eq_true (by first|(with_reducible assumption)|assumption)
         obtain ⟨ad318,e318,hx318_0,hx318_1⟩:=at_T30 HR0.out x5_1 p318 q318
         have hw318_1:=hx318_1
         have hw318_0:=hx318_0
         cases e318
         replace hx318_0:=(HB.out.cell (bl_ w _ hx318_0)).trans hx318_0
         replace hx318_1:=(HB.out.cell (bl_ w _ hx318_1)).trans hx318_1
         replace p318:=eq_true p318
         replace q318:=eq_true q318
         have p319 : 0 ≤ ((ji11) : Int):=of_decide_eq_true (by first|(with_reducible assumption)|assumption)
         have q319 : (ji11) < (l0.length : Int):=of_decide_eq_true (by first|(with_reducible assumption)|assumption)
         obtain ⟨ad319,e319,hx319_0,hx319_1⟩:=at_T30 HR0.out (ji11) p319 q319
         have hw319_1:=hx319_1
         have hw319_0:=hx319_0
         obtain rfl : ad318 = ad319:=(by injection e319)
         replace hx319_0:=(HB.out.cell (bl_ w _ hx319_0)).trans hx319_0
         replace hx319_1:=(HB.out.cell (bl_ w _ hx319_1)).trans hx319_1
         replace p319:=eq_true p319
         replace q319:=eq_true q319
         refine start_ (n:=15) (S:=fun w'=>w'.cell? ⟨gb316,0,none⟩ = some (.int .i64 a1_0)∧w'.cell? ⟨gb316,1,none⟩ = some (.int .i64 a1_1)∧w'.cell? (ad318.add ((x5_1).toNat * 2)) = some (.int .i64 ((rd_T30 l0 x5_1).f0))∧w'.cell? ⟨(ad318.add ((x5_1).toNat * 2)).block,(ad318.add ((x5_1).toNat * 2)).off + 1,none⟩ = some (.int .i64 ((rd_T30 l0 x5_1).f1))∧w'.cell? (ad318.add (((ji11)).toNat * 2)) = some (.int .i64 ((rd_T30 l0 (ji11)).f0))∧w'.cell? ⟨(ad318.add (((ji11)).toNat * 2)).block,(ad318.add (((ji11)).toNat * 2)).off + 1,none⟩ = some (.int .i64 ((rd_T30 l0 (ji11)).f1))) (ds:=[]) #[false,false,false,false,false,false,false,false,false,false,false,false,false,false,false] (by kernel_rfl) rfl rfl ⟨(blk_cell BK316.out 0).trans rfl,(blk_cell BK316.out 1).trans rfl,((HB.out.cell (bl_ w _ hw318_0)).trans hw318_0),((HB.out.cell (bl_ w _ hw318_1)).trans hw318_1),((HB.out.cell (bl_ w _ hw319_0)).trans hw319_0),((HB.out.cell (bl_ w _ hw319_1)).trans hw319_1)⟩ (fun hHeld=>?_);refine with_tabW garmentref14_Interior.tab6 garmentref14_Interior.bits6 (fun HT_ HW_=>?_)
         generalize wr.drew = w16 at BK316 HB hx318_0 hx318_1 hx319_0 hx319_1 hHeld ⊢
         refine pure_ (i:=0) (N:=some 15) (v:=?_) (a':=?_) #[true,false,false,false,false,false,false,false,false,false,false,false,false,false,false] rfl rfl (any_of HT_.out (by kernel_rfl)) (fun _ _ _ h=>h) (Or.inl ⟨by rfl,?_⟩) ?_ ?_
         rotate_left
         ·
          intro w'
          go_simp
          with_reducible rfl
         rotate_left
         ·
          simp only [Act.put,la_,l0_,l1_,i64_w,i32_w]
          rfl
         refine pure_ (i:=1) (N:=some 16) (v:=?_) (a':=?_) #[true,true,false,false,false,false,false,false,false,false,false,false,false,false,false] rfl rfl (any_of HT_.out (by kernel_rfl)) (fun _ _ _ h=>h) (Or.inl ⟨by rfl,?_⟩) ?_ ?_
         rotate_left
         ·
          intro w'
          go_simp
          with_reducible rfl
         rotate_left
         ·
          simp only [Act.put,la_,l0_,l1_,i64_w,i32_w]
          rfl
         refine pure_ (i:=2) (N:=some 17) (v:=?_) (a':=?_) #[true,true,true,false,false,false,false,false,false,false,false,false,false,false,false] rfl rfl (any_of HT_.out (by kernel_rfl)) (fun _ _ _ h=>h) (Or.inl ⟨by rfl,?_⟩) ?_ ?_
         rotate_left
         ·
          intro w'
          go_simp
          with_reducible rfl
         rotate_left
         ·
          simp only [Act.put,la_,l0_,l1_,i64_w,i32_w]
          rfl
         refine pure_ (i:=4) (N:=some 19) (v:=?_) (a':=?_) #[true,true,true,false,true,false,false,false,false,false,false,false,false,false,false] rfl rfl (any_of HT_.out (by kernel_rfl)) (fun _ _ _ h=>h) (Or.inl ⟨by rfl,?_⟩) ?_ ?_
         rotate_left
         ·
          intro w'
          go_simp
          with_reducible rfl
         rotate_left
         ·
          simp only [Act.put,la_,l0_,l1_,i64_w,i32_w]
          rfl
         refine pure_ (i:=5) (N:=some 20) (v:=?_) (a':=?_) #[true,true,true,false,true,true,false,false,false,false,false,false,false,false,false] rfl rfl (any_of HT_.out (by kernel_rfl)) (fun _ _ _ h=>h) (Or.inl ⟨by rfl,?_⟩) ?_ ?_
         rotate_left
         ·
          intro w'
          go_simp
          with_reducible rfl
         rotate_left
         ·
          simp only [Act.put,la_,l0_,l1_,i64_w,i32_w]
          rfl
         refine pure_ (i:=6) (N:=some 21) (v:=?_) (a':=?_) #[true,true,true,false,true,true,true,false,false,false,false,false,false,false,false] rfl rfl (any_of HT_.out (by kernel_rfl)) (fun _ _ _ h=>h) (Or.inl ⟨by rfl,?_⟩) ?_ ?_
         rotate_left
         ·
          intro w'
          go_simp
          with_reducible rfl
         rotate_left
         ·
          simp only [Act.put,la_,l0_,l1_,i64_w,i32_w]
          rfl
         refine pure_ (i:=7) (N:=some 22) (v:=?_) (a':=?_) #[true,true,true,false,true,true,true,true,false,false,false,false,false,false,false] rfl rfl (any_of HT_.out (by kernel_rfl)) (fun _ _ _ h=>h) (Or.inl ⟨by rfl,?_⟩) ?_ ?_
         rotate_left
         ·
          intro w'
          go_simp
          with_reducible rfl
         rotate_left
         ·
          simp only [Act.put,la_,l0_,l1_,i64_w,i32_w]
          rfl
         refine pure_ (i:=8) (N:=some 23) (v:=?_) (a':=?_) #[true,true,true,false,true,true,true,true,true,false,false,false,false,false,false] rfl rfl (any_of HT_.out (by kernel_rfl)) (fun _ _ _ h=>h) (Or.inl ⟨by rfl,?_⟩) ?_ ?_
         rotate_left
         ·
          intro w'
          go_simp
          with_reducible rfl
         rotate_left
         ·
          simp only [Act.put,la_,l0_,l1_,i64_w,i32_w]
          rfl
         refine pure_ (i:=9) (N:=some 24) (v:=?_) (a':=?_) #[true,true,true,false,true,true,true,true,true,true,false,false,false,false,false] rfl rfl (any_of HT_.out (by kernel_rfl)) (fun _ _ _ h=>h) (Or.inl ⟨by rfl,?_⟩) ?_ ?_
         rotate_left
         ·
          intro w'
          go_simp
          with_reducible rfl
         rotate_left
         ·
          simp only [Act.put,la_,l0_,l1_,i64_w,i32_w]
          rfl
         refine pure_ (i:=10) (N:=some 25) (v:=?_) (a':=?_) #[true,true,true,false,true,true,true,true,true,true,true,false,false,false,false] rfl rfl (any_of HT_.out (by kernel_rfl)) (fun _ _ _ h=>h) (Or.inl ⟨by rfl,?_⟩) ?_ ?_
         rotate_left
         ·
          intro w'
          go_simp
          with_reducible rfl
         rotate_left
         ·
          simp only [Act.put,la_,l0_,l1_,i64_w,i32_w]
          rfl
         refine take_ (i:=3) (N:=some 18) (v:=?_) (a':=?_) #[true,true,true,true,true,true,true,true,true,true,true,false,false,false,false] rfl rfl (take_ofW HT_.out HW_.out (by kernel_rfl)) (fun _ _ _ h=>h) (Or.inl ⟨by rfl,?_⟩) hHeld ?_ ?_
         rotate_left
         ·
          rintro w' ⟨s0,s1,s2,s3,s4,s5⟩
          go_simp
          with_reducible rfl
         rotate_left
         ·
          simp only [Act.put,la_,l0_,l1_,i64_w,i32_w]
          rfl
         refine take_ (i:=11) (N:=some 26) (v:=?_) (a':=?_) #[true,true,true,true,true,true,true,true,true,true,true,true,false,false,false] rfl rfl (take_ofW HT_.out HW_.out (by kernel_rfl)) (fun _ _ _ h=>h) (Or.inl ⟨by rfl,?_⟩) hHeld ?_ ?_
         rotate_left
         ·
          rintro w' ⟨s0,s1,s2,s3,s4,s5⟩
          go_simp
          with_reducible rfl
         rotate_left
         ·
          simp only [Act.put,la_,l0_,l1_,i64_w,i32_w]
          rfl
         refine take_ (i:=12) (N:=some 27) (v:=?_) (a':=?_) #[true,true,true,true,true,true,true,true,true,true,true,true,true,false,false] rfl rfl (take_ofW HT_.out HW_.out (by kernel_rfl)) (fun _ _ _ h=>h) (Or.inl ⟨by rfl,?_⟩) hHeld ?_ ?_
         rotate_left
         ·
          rintro w' ⟨s0,s1,s2,s3,s4,s5⟩
          go_simp
          with_reducible rfl
         rotate_left
         ·
          simp only [Act.put,la_,l0_,l1_,i64_w,i32_w]
          rfl
         refine one_ (i:=13) (N:=some 28) #[true,true,true,true,true,true,true,true,true,true,true,true,true,true,false] rfl rfl (one_of HT_.out (by kernel_rfl)) (by decide) (fun K hK=>?_)
         refine goes_ Try.func23 (by kernel_rfl) rfl #[.agg #[.int .i64 ((rd_T30 l0 x5_1).f0),.int .i64 ((rd_T30 l0 x5_1).f1)],.agg #[.int .i64 ((rd_T30 l0 (ji11)).f0),.int .i64 ((rd_T30 l0 (ji11)).f1)],.agg #[.int .i64 a1_0,.int .i64 a1_1]] (by rfl) rfl rfl (by (try simp only [List.map_toArray,List.map_cons,List.map_nil]);first|done|(simp only [hji11];rfl)|rfl|(simp only [List.length_drop,List.length_take];rfl)) ?_
         with_reducible refine (garmentref11_Cross.calls ((rd_T30 l0 x5_1).f0) ((rd_T30 l0 x5_1).f1) ((rd_T30 l0 (ji11)).f0) ((rd_T30 l0 (ji11)).f1) a1_0 a1_1 t320 _ A14.out).mono ?_
         rintro e w17 ⟨rfl,hb⟩
         refine ⟨_,rfl,?_⟩
         have n0_:=Aside0.mk (blk_below (g:=gb316) (o:=.cells #[.int .i64 a1_0,.int .i64 a1_1] 30 (0,0)) (by (with_reducible repeat (first|refine kn_ ?_ _|refine kd_ ?_|refine ka_ ?_ _));exact BK316.out) hb)
         have n1_:=Aside0.mk (below_step (by repeat (first|(with_reducible first|exact HB.out|apply ba_|apply bn_|apply bd_|refine below_set ?_ GE316.out)|exact HB.out)) hb)
         clear BK316
         clear HB
         have BK316:=n0_
         have HB:=n1_
         clear n0_ n1_
         (try clear hb)
         (try clear hb2)
         (try clear hk)
         (try clear hi)
         refine hK.out _ _ ⟨(blk_cell BK316.out 0).trans rfl,(blk_cell BK316.out 1).trans rfl,((HB.out.cell (bl_ w _ hw318_0)).trans hw318_0),((HB.out.cell (bl_ w _ hw318_1)).trans hw318_1),((HB.out.cell (bl_ w _ hw319_0)).trans hw319_0),((HB.out.cell (bl_ w _ hw319_1)).trans hw319_1)⟩ (fun hHeld=>?_)
         clear hK K
         refine norm_ (a':=?_) ?_ ?_
         rotate_left
         ·
          show Act.put _ (some 28) _ = _
          simp only [Act.put,la_,l0_,l1_,i64_w,i32_w]
          rfl
         refine pure_ (i:=14) (N:=some 29) (v:=?_) (a':=?_) #[true,true,true,true,true,true,true,true,true,true,true,true,true,true,true] rfl rfl (any_of HT_.out (by kernel_rfl)) (fun _ _ _ h=>h) (Or.inl ⟨by rfl,?_⟩) ?_ ?_
         rotate_left
         ·
          intro w'
          go_simp
          with_reducible rfl
         rotate_left
         ·
          simp only [Act.put,la_,l0_,l1_,i64_w,i32_w]
          rfl
         refine done_ (done_of HT_.out (by kernel_rfl)) ?_
         try go_wp2
         go_ret
         exact ⟨by first|rfl|(simp [errW_none,errW_some] <;> rfl)|(simp only [← hji11];first|rfl|(simp [errW_none,errW_some] <;> rfl))|(simp [*,errW_none,errW_some] <;> rfl),by repeat (first|(with_reducible first|exact HB.out|apply ba_|apply bn_|apply bd_|refine below_set ?_ GE316.out)|exact HB.out)⟩
        rw [if_neg c15] at H
        have c15b0 : decide (t320 ≤ 0) = false:=decide_eq_false c15
        clear c15
        have H':=Aside0.mk H
        clear H
        try go_wp2
        have n0_:=Aside0.mk (kd_ BK316.out)
        have n1_:=Aside0.mk (bd_ HB.out)
        clear BK316
        clear HB
        have BK316:=n0_
        have HB:=n1_
        clear n0_ n1_
        have p318 : 0 ≤ (x5_1 : Int):=of_decide_eq_true (by first|(with_reducible assumption)|assumption)
        have q318 : x5_1 < (l0.length : Int):=of_decide_eq_true (by first|(with_reducible assumption)|assumption)
        obtain ⟨ad318,e318,hx318_0,hx318_1⟩:=at_T30 HR0.out x5_1 p318 q318
        have hw318_1:=hx318_1
        have hw318_0:=hx318_0
        cases e318
        replace hx318_0:=(HB.out.cell (bl_ w _ hx318_0)).trans hx318_0
        replace hx318_1:=(HB.out.cell (bl_ w _ hx318_1)).trans hx318_1
        replace p318:=eq_true p318
        replace q318:=eq_true q318
        have p319 : 0 ≤ ((ji11) : Int):=of_decide_eq_true (by first|(with_reducible assumption)|assumption)
        have q319 : (ji11) < (l0.length : Int):=of_decide_eq_true (by first|(with_reducible assumption)|assumption)
        obtain ⟨ad319,e319,hx319_0,hx319_1⟩:=at_T30 HR0.out (ji11) p319 q319
        have hw319_1:=hx319_1
        have hw319_0:=hx319_0
        obtain rfl : ad318 = ad319:=(by injection e319)
        replace hx319_0:=(HB.out.cell (bl_ w _ hx319_0)).trans hx319_0
        replace hx319_1:=(HB.out.cell (bl_ w _ hx319_1)).trans hx319_1
        replace p319:=eq_true p319
        replace q319:=eq_true q319
        refine start_ (n:=15) (S:=fun w'=>w'.cell? ⟨gb316,0,none⟩ = some (.int .i64 a1_0)∧w'.cell? ⟨gb316,1,none⟩ = some (.int .i64 a1_1)∧w'.cell? (ad318.add ((x5_1).toNat * 2)) = some (.int .i64 ((rd_T30 l0 x5_1).f0))∧w'.cell? ⟨(ad318.add ((x5_1).toNat * 2)).block,(ad318.add ((x5_1).toNat * 2)).off + 1,none⟩ = some (.int .i64 ((rd_T30 l0 x5_1).f1))∧w'.cell? (ad318.add (((ji11)).toNat * 2)) = some (.int .i64 ((rd_T30 l0 (ji11)).f0))∧w'.cell? ⟨(ad318.add (((ji11)).toNat * 2)).block,(ad318.add (((ji11)).toNat * 2)).off + 1,none⟩ = some (.int .i64 ((rd_T30 l0 (ji11)).f1))) (ds:=[]) #[false,false,false,false,false,false,false,false,false,false,false,false,false,false,false] (by kernel_rfl) rfl rfl ⟨(blk_cell BK316.out 0).trans rfl,(blk_cell BK316.out 1).trans rfl,((HB.out.cell (bl_ w _ hw318_0)).trans hw318_0),((HB.out.cell (bl_ w _ hw318_1)).trans hw318_1),((HB.out.cell (bl_ w _ hw319_0)).trans hw319_0),((HB.out.cell (bl_ w _ hw319_1)).trans hw319_1)⟩ (fun hHeld=>?_);refine with_tabW garmentref14_Interior.tab6 garmentref14_Interior.bits6 (fun HT_ HW_=>?_)
        generalize wr.drew = w18 at BK316 HB hx318_0 hx318_1 hx319_0 hx319_1 hHeld ⊢
        refine pure_ (i:=0) (N:=some 15) (v:=?_) (a':=?_) #[true,false,false,false,false,false,false,false,false,false,false,false,false,false,false] rfl rfl (any_of HT_.out (by kernel_rfl)) (fun _ _ _ h=>h) (Or.inl ⟨by rfl,?_⟩) ?_ ?_
        rotate_left
        ·
         intro w'
         go_simp
         with_reducible rfl
        rotate_left
        ·
         simp only [Act.put,la_,l0_,l1_,i64_w,i32_w]
         rfl
        refine pure_ (i:=1) (N:=some 16) (v:=?_) (a':=?_) #[true,true,false,false,false,false,false,false,false,false,false,false,false,false,false] rfl rfl (any_of HT_.out (by kernel_rfl)) (fun _ _ _ h=>h) (Or.inl ⟨by rfl,?_⟩) ?_ ?_
        rotate_left
        ·
         intro w'
         go_simp
         with_reducible rfl
        rotate_left
        ·
         simp only [Act.put,la_,l0_,l1_,i64_w,i32_w]
         rfl
        refine pure_ (i:=2) (N:=some 17) (v:=?_) (a':=?_) #[true,true,true,false,false,false,false,false,false,false,false,false,false,false,false] rfl rfl (any_of HT_.out (by kernel_rfl)) (fun _ _ _ h=>h) (Or.inl ⟨by rfl,?_⟩) ?_ ?_
        rotate_left
        ·
         intro w'
         go_simp
         with_reducible rfl
        rotate_left
        ·
         simp only [Act.put,la_,l0_,l1_,i64_w,i32_w]
         rfl
        refine pure_ (i:=4) (N:=some 19) (v:=?_) (a':=?_) #[true,true,true,false,true,false,false,false,false,false,false,false,false,false,false] rfl rfl (any_of HT_.out (by kernel_rfl)) (fun _ _ _ h=>h) (Or.inl ⟨by rfl,?_⟩) ?_ ?_
        rotate_left
        ·
         intro w'
         go_simp
         with_reducible rfl
        rotate_left
        ·
         simp only [Act.put,la_,l0_,l1_,i64_w,i32_w]
         rfl
        refine pure_ (i:=5) (N:=some 20) (v:=?_) (a':=?_) #[true,true,true,false,true,true,false,false,false,false,false,false,false,false,false] rfl rfl (any_of HT_.out (by kernel_rfl)) (fun _ _ _ h=>h) (Or.inl ⟨by rfl,?_⟩) ?_ ?_
        rotate_left
        ·
         intro w'
         go_simp
         with_reducible rfl
        rotate_left
        ·
         simp only [Act.put,la_,l0_,l1_,i64_w,i32_w]
         rfl
        refine pure_ (i:=6) (N:=some 21) (v:=?_) (a':=?_) #[true,true,true,false,true,true,true,false,false,false,false,false,false,false,false] rfl rfl (any_of HT_.out (by kernel_rfl)) (fun _ _ _ h=>h) (Or.inl ⟨by rfl,?_⟩) ?_ ?_
        rotate_left
        ·
         intro w'
         go_simp
         with_reducible rfl
        rotate_left
        ·
         simp only [Act.put,la_,l0_,l1_,i64_w,i32_w]
         rfl
        refine pure_ (i:=7) (N:=some 22) (v:=?_) (a':=?_) #[true,true,true,false,true,true,true,true,false,false,false,false,false,false,false] rfl rfl (any_of HT_.out (by kernel_rfl)) (fun _ _ _ h=>h) (Or.inl ⟨by rfl,?_⟩) ?_ ?_
        rotate_left
        ·
         intro w'
         go_simp
         with_reducible rfl
        rotate_left
        ·
         simp only [Act.put,la_,l0_,l1_,i64_w,i32_w]
         rfl
        refine pure_ (i:=8) (N:=some 23) (v:=?_) (a':=?_) #[true,true,true,false,true,true,true,true,true,false,false,false,false,false,false] rfl rfl (any_of HT_.out (by kernel_rfl)) (fun _ _ _ h=>h) (Or.inl ⟨by rfl,?_⟩) ?_ ?_
        rotate_left
        ·
         intro w'
         go_simp
         with_reducible rfl
        rotate_left
        ·
         simp only [Act.put,la_,l0_,l1_,i64_w,i32_w]
         rfl
        refine pure_ (i:=9) (N:=some 24) (v:=?_) (a':=?_) #[true,true,true,false,true,true,true,true,true,true,false,false,false,false,false] rfl rfl (any_of HT_.out (by kernel_rfl)) (fun _ _ _ h=>h) (Or.inl ⟨by rfl,?_⟩) ?_ ?_
        rotate_left
        ·
         intro w'
         go_simp
         with_reducible rfl
        rotate_left
        ·
         simp only [Act.put,la_,l0_,l1_,i64_w,i32_w]
         rfl
        refine pure_ (i:=10) (N:=some 25) (v:=?_) (a':=?_) #[true,true,true,false,true,true,true,true,true,true,true,false,false,false,false] rfl rfl (any_of HT_.out (by kernel_rfl)) (fun _ _ _ h=>h) (Or.inl ⟨by rfl,?_⟩) ?_ ?_
        rotate_left
        ·
         intro w'
         go_simp
         with_reducible rfl
        rotate_left
        ·
         simp only [Act.put,la_,l0_,l1_,i64_w,i32_w]
         rfl
        refine take_ (i:=3) (N:=some 18) (v:=?_) (a':=?_) #[true,true,true,true,true,true,true,true,true,true,true,false,false,false,false] rfl rfl (take_ofW HT_.out HW_.out (by kernel_rfl)) (fun _ _ _ h=>h) (Or.inl ⟨by rfl,?_⟩) hHeld ?_ ?_
        rotate_left
        ·
         rintro w' ⟨s0,s1,s2,s3,s4,s5⟩
         go_simp
         with_reducible rfl
        rotate_left
        ·
         simp only [Act.put,la_,l0_,l1_,i64_w,i32_w]
         rfl
        refine take_ (i:=11) (N:=some 26) (v:=?_) (a':=?_) #[true,true,true,true,true,true,true,true,true,true,true,true,false,false,false] rfl rfl (take_ofW HT_.out HW_.out (by kernel_rfl)) (fun _ _ _ h=>h) (Or.inl ⟨by rfl,?_⟩) hHeld ?_ ?_
        rotate_left
        ·
         rintro w' ⟨s0,s1,s2,s3,s4,s5⟩
         go_simp
         with_reducible rfl
        rotate_left
        ·
         simp only [Act.put,la_,l0_,l1_,i64_w,i32_w]
         rfl
        refine take_ (i:=12) (N:=some 27) (v:=?_) (a':=?_) #[true,true,true,true,true,true,true,true,true,true,true,true,true,false,false] rfl rfl (take_ofW HT_.out HW_.out (by kernel_rfl)) (fun _ _ _ h=>h) (Or.inl ⟨by rfl,?_⟩) hHeld ?_ ?_
        rotate_left
        ·
         rintro w' ⟨s0,s1,s2,s3,s4,s5⟩
         go_simp
         with_reducible rfl
        rotate_left
        ·
         simp only [Act.put,la_,l0_,l1_,i64_w,i32_w]
         rfl
        refine one_ (i:=13) (N:=some 28) #[true,true,true,true,true,true,true,true,true,true,true,true,true,true,false] rfl rfl (one_of HT_.out (by kernel_rfl)) (by decide) (fun K hK=>?_)
        refine goes_ Try.func23 (by kernel_rfl) rfl #[.agg #[.int .i64 ((rd_T30 l0 x5_1).f0),.int .i64 ((rd_T30 l0 x5_1).f1)],.agg #[.int .i64 ((rd_T30 l0 (ji11)).f0),.int .i64 ((rd_T30 l0 (ji11)).f1)],.agg #[.int .i64 a1_0,.int .i64 a1_1]] (by rfl) rfl rfl (by (try simp only [List.map_toArray,List.map_cons,List.map_nil]);first|done|(simp only [hji11];rfl)|rfl|(simp only [List.length_drop,List.length_take];rfl)) ?_
        with_reducible refine (garmentref11_Cross.calls ((rd_T30 l0 x5_1).f0) ((rd_T30 l0 x5_1).f1) ((rd_T30 l0 (ji11)).f0) ((rd_T30 l0 (ji11)).f1) a1_0 a1_1 t320 _ A14.out).mono ?_
        rintro e w19 ⟨rfl,hb⟩
        refine ⟨_,rfl,?_⟩
        have n0_:=Aside0.mk (blk_below (g:=gb316) (o:=.cells #[.int .i64 a1_0,.int .i64 a1_1] 30 (0,0)) (by (with_reducible repeat (first|refine kn_ ?_ _|refine kd_ ?_|refine ka_ ?_ _));exact BK316.out) hb)
        have n1_:=Aside0.mk (below_step (by repeat (first|(with_reducible first|exact HB.out|apply ba_|apply bn_|apply bd_|refine below_set ?_ GE316.out)|exact HB.out)) hb)
        clear BK316
        clear HB
        have BK316:=n0_
        have HB:=n1_
        clear n0_ n1_
        (try clear hb)
        (try clear hb2)
        (try clear hk)
        (try clear hi)
        refine hK.out _ _ ⟨(blk_cell BK316.out 0).trans rfl,(blk_cell BK316.out 1).trans rfl,((HB.out.cell (bl_ w _ hw318_0)).trans hw318_0),((HB.out.cell (bl_ w _ hw318_1)).trans hw318_1),((HB.out.cell (bl_ w _ hw319_0)).trans hw319_0),((HB.out.cell (bl_ w _ hw319_1)).trans hw319_1)⟩ (fun hHeld=>?_)
        clear hK K
        refine norm_ (a':=?_) ?_ ?_
        rotate_left
        ·
         show Act.put _ (some 28) _ = _
         simp only [Act.put,la_,l0_,l1_,i64_w,i32_w]
         rfl
        refine pure_ (i:=14) (N:=some 29) (v:=?_) (a':=?_) #[true,true,true,true,true,true,true,true,true,true,true,true,true,true,true] rfl rfl (any_of HT_.out (by kernel_rfl)) (fun _ _ _ h=>h) (Or.inl ⟨by rfl,?_⟩) ?_ ?_
        rotate_left
        ·
         intro w'
         go_simp
         with_reducible rfl
        rotate_left
        ·
         simp only [Act.put,la_,l0_,l1_,i64_w,i32_w]
         rfl
        refine done_ (done_of HT_.out (by kernel_rfl)) ?_
        try go_wp2
        go_roundg k1
        case measure=>have:=HK1.out;omega
        case rel=>exact ⟨(wrap64 (x5_1 + 1)),(by first|rfl|(simp;done)|(simp [*];done)),H',⟨by have:=HK1.out;omega⟩,⟨by (with_reducible repeat (first|refine kn_ ?_ _|refine kd_ ?_|refine ka_ ?_ _));exact BK316.out⟩,⟨by repeat (first|(with_reducible first|exact HB.out|apply ba_|apply bn_|apply bd_|refine below_set ?_ GE316.out)|exact HB.out)⟩⟩
       rw [if_neg c13] at H
       exact absurd H (by simp)
      rw [if_neg c12] at H
      exact absurd H (by simp)
     rw [if_neg c9] at H
     exact absurd H (by simp)
    rw [if_neg c8] at H
    have c8b0 : decide (x5_1 < (l0.length : Int)) = false:=decide_eq_false c8
    clear c8
    obtain rfl:=Option.some.inj H
    go_wp2
    go_ret
    exact ⟨by first|rfl|(simp [errW_none,errW_some] <;> rfl)|(simp [*,errW_none,errW_some] <;> rfl),by repeat (first|(with_reducible first|exact HB.out|apply ba_|apply bn_|apply bd_|refine below_set ?_ GE316.out)|exact HB.out)⟩
 replace c4:=Bool.eq_false_iff.mpr c4
 subst c4
 have H1 : (some false) = some r:=by rw [if_neg (show ¬ (false = true) by decide)] at H;exact H
 clear H
 have H:=H1
 clear H1
 obtain rfl:=Option.some.inj H
 go_enter Try.func33,Try.ntmps33
 go_wp2_with (first|((with_reducible refine gate_dst (N:=3) rfl ?_);refine box_event ?hg (N:=3) ?hd (cs:=#[.int .i64 a1_0,.int .i64 a1_1]) (t:=30) ?hr ?_;(case hd=>rfl);(case hg=>rfl);(case hr=>first|(go_simp;done)|(go_simp;rfl));intro gb316 hg w20 hbox hb;have n0_:=Aside0.mk (below_step (by repeat (first|(with_reducible first|exact HB.out|apply ba_|apply bn_|apply bd_)|exact HB.out)) hb);have n1_:=Aside0.mk (hbox);have n2_:=Aside0.mk ((by rw [hg];exact (below_size (by repeat (first|(with_reducible first|exact HB.out|apply ba_|apply bn_|apply bd_)|exact HB.out))) : w.heap.size ≤ gb316));have n3_:=Aside0.mk ((by rw [hg];exact (below_size (by repeat (first|(with_reducible first|exact HB.out|apply ba_|apply bn_|apply bd_)|exact HB.out))) : w.heap.size ≤ gb316));clear HB;have HB:=n0_;have BK316:=n1_;have GW316:=n2_;have GE316:=n3_;clear n0_ n1_ n2_ n3_;clear hb hbox hg;have hcz21_0 : w20.cell? ⟨gb316,0,none⟩ = some (.int .i64 a1_0):=(blk_cell BK316.out 0).trans rfl;have hcz21_1 : w20.cell? ⟨gb316,1,none⟩ = some (.int .i64 a1_1):=(blk_cell BK316.out 1).trans rfl;have hfz21_0:=blk_frozen BK316.out 0;have hfz21_1:=blk_frozen BK316.out 1)|((with_reducible refine gate_callee (f:=21) rfl ?_);refine goesL_ (some 7) rfl rfl Try.func21 (by kernel_rfl) rfl #[.agg #[.int .i64 a1_0,.int .i64 a1_1],.int .i64 4194304] rfl (by (try simp only [List.map_toArray,List.map_cons,List.map_nil]);first|done|rfl|(simp only [List.length_drop,List.length_take];rfl)) ?_;(with_reducible refine (garmentref11_Within.calls a1_0 a1_1 4194304 false _ A3.out).mono ?_);rintro e w22 ⟨rfl,hb⟩;refine ⟨_,rfl,?_⟩;have n0_:=Aside0.mk (blk_below (g:=gb316) (o:=.cells #[.int .i64 a1_0,.int .i64 a1_1] 30 (0,0)) (by (with_reducible repeat (first|refine kn_ ?_ _|refine kd_ ?_|refine ka_ ?_ _));exact BK316.out) hb);have n1_:=Aside0.mk (below_step (by repeat (first|(with_reducible first|exact HB.out|apply ba_|apply bn_|apply bd_|refine below_set ?_ GE316.out)|exact HB.out)) hb);clear BK316;clear HB;have BK316:=n0_;have HB:=n1_;clear n0_ n1_;(try clear hb);(try clear hb2);(try clear hk);(try clear hi)))
 go_ret
 exact ⟨by first|rfl|(simp [errW_none,errW_some] <;> rfl)|(simp [*,errW_none,errW_some] <;> rfl),by repeat (first|(with_reducible first|exact HB.out|apply ba_|apply bn_|apply bd_|refine below_set ?_ GE316.out)|exact HB.out)⟩

end Go.Proofs.Ytlnigbhimdphoaa.C
