-- PRINTED by print.py (a twelfth state) out of the translation. Not trusted: Lean checks it.
import Derived.Test.YtlnigbhimdphoaaCx0
import Derived.Test.YtlnigbhimdphoaaCx14
import Derived.Test.YtlnigbhimdphoaaCx15
namespace Go.Proofs.Ytlnigbhimdphoaa.C
open Go.RowKit Go.Proofs.YtlnigbhimdphoaaW.PrintWords Go.Proofs.YtlnigbhimdphoaaW.PrintLast Go.Proofs.YtlnigbhimdphoaaW.PrintMore
attribute [local go_sem] max2_int min2_int max_two min_two max_three min_three max_four min_four Go.Proofs.Ytlnigbhimdphoaa.Aid.isSome_setCell   -- for this text's walks alone
set_option linter.unusedVariables false
set_option linter.unusedSimpArgs false

/-! ### garmentref14_Inside: function 15 -/
def garmentref14_Inside.f (k : Nat) (l0 : List (S30)) (a1_0 : Int) (a1_1 : Int) : Option (Bool × Int):=(garmentref14_Hull.f k l0).bind fun bt322=>(if bt322.2 = 0 then ((garmentref14_Interior.f k bt322.1 a1_0 a1_1).bind fun t326=>(some (t326,0))) else (some (false,bt322.2)))
theorem garmentref14_Inside.mono : ∀ a0 a1 a2 k,LeO (garmentref14_Inside.f k a0 a1 a2) (garmentref14_Inside.f (k + 1) a0 a1 a2):=by
 intro a0 a1 a2 k
 unfold garmentref14_Inside.f
 repeat' first
   | (with_reducible exact garmentref14_Hull.mono _ _)
   | (with_reducible exact garmentref14_Interior.mono _ _ _ _)
   | (with_reducible exact LeO.refl _)
   | (with_reducible exact LeO.none _)
   | (with_reducible refine LeO.ite ?_ ?_)
   | (with_reducible refine LeO.bind ?_ (fun _=>?_))
   | exact garmentref14_Hull.mono _ _
   | exact garmentref14_Interior.mono _ _ _ _
   | exact LeO.none _
   | refine LeO.ite ?_ ?_
   | refine LeO.bind ?_ (fun _=>?_)
set_option maxHeartbeats 8000000 in
set_option maxRecDepth 100000 in
theorem garmentref14_Inside.calls (k : Nat) (A0 : Option Addr) (c0 : Nat) (l0 : List (S30)) (a1_0 : Int) (a1_1 : Int) (r1 : Bool) (r2 : Int) (w : World) (hr0 : Kd.C k30 w A0 l0.length l0) (hc0 : l0.length ≤ c0) (h : garmentref14_Inside.f k l0 a1_0 a1_1 = some (r1,r2)) :
  Calls Try.prog 15 #[.slice A0 l0.length c0,.agg #[.int .i64 a1_0,.int .i64 a1_1]] w fun e w'=>e = .returned (.tuple #[.bool r1,.int .i64 r2])∧Below w.heap.size w w':=by
 have hu30:=Try.underlying30
 have HR0:=Aside0.mk hr0
 have HC0:=Aside0.mk hc0
 clear hr0 hc0
 have HB:=Aside0.mk (Below.refl w.heap.size w)
 have H : ((garmentref14_Hull.f k l0).bind fun bt322=>(if bt322.2 = 0 then ((garmentref14_Interior.f k bt322.1 a1_0 a1_1).bind fun t326=>(some (t326,0))) else (some (false,bt322.2)))) = some (r1,r2):=h
 clear h
 replace H:=Option.bind_eq_some_iff.mp H
 obtain ⟨⟨t322,t323⟩,A30,H⟩:=H
 replace H : (if t323 = 0 then ((garmentref14_Interior.f k t322 a1_0 a1_1).bind fun t326=>(some (t326,0))) else (some (false,t323))) = some (r1,r2):=H
 have A3:=Aside0.mk A30
 clear A30
 by_cases c4 : t323 = 0
 ·
  rw [if_pos c4] at H
  have c4b0 : (t323 == 0) = true:=beq_iff_eq.mpr c4
  have c4b1 : (t323 != 0) = false:=bne_eq_false_iff_eq.mpr c4
  clear c4
  replace H:=Option.bind_eq_some_iff.mp H
  obtain ⟨t326,A50,H⟩:=H
  replace H : (some (t326,0)) = some (r1,r2):=H
  have A5:=Aside0.mk A50
  clear A50
  simp only [Option.some.injEq,Prod.mk.injEq] at H
  obtain ⟨rfl,rfl⟩:=H
  go_enter Try.func15,Try.ntmps15
  go_wp2_with (first|((with_reducible refine gate_dst (N:=3) rfl ?_);refine box_event ?hg (N:=3) ?hd (cs:=#[.int .i64 a1_0,.int .i64 a1_1]) (t:=30) ?hr ?_;(case hd=>rfl);(case hg=>rfl);(case hr=>first|(go_simp;done)|(go_simp;rfl));intro gb321 hg w6 hbox hb;have n0_:=Aside0.mk (below_step (by repeat (first|(with_reducible first|exact HB.out|apply ba_|apply bn_|apply bd_)|exact HB.out)) hb);have n1_:=Aside0.mk (hbox);have n2_:=Aside0.mk ((by rw [hg];exact (below_size (by repeat (first|(with_reducible first|exact HB.out|apply ba_|apply bn_|apply bd_)|exact HB.out))) : w.heap.size ≤ gb321));have n3_:=Aside0.mk ((by rw [hg];exact (below_size (by repeat (first|(with_reducible first|exact HB.out|apply ba_|apply bn_|apply bd_)|exact HB.out))) : w.heap.size ≤ gb321));clear HB;have HB:=n0_;have BK321:=n1_;have GW321:=n2_;have GE321:=n3_;clear n0_ n1_ n2_ n3_;clear hb hbox hg)|((with_reducible refine gate_callee (f:=12) rfl ?_);refine goesL_ (some 10) rfl rfl Try.func12 (by kernel_rfl) rfl #[.slice A0 l0.length c0] rfl (by (try simp only [List.map_toArray,List.map_cons,List.map_nil]);first|done|rfl|(simp only [List.length_drop,List.length_take];rfl)) ?_;(with_reducible refine (garmentref14_Hull.calls k _ _ l0 t322 t323 _ ?side1 ?side2 A3.out).mono ?_);(case side1=>repeat (first|exact (Kd.C_below HR0.out HB.out)|(with_reducible refine Kd.C_alloc ?_ _)|(with_reducible refine Kd.C_drewN ?_ _)|(with_reducible refine Kd.C_drew ?_)));(case side2=>exact HC0.out);rintro e w7 ⟨v324,rfl,ho0,hb⟩;refine ⟨_,rfl,?_⟩;have n0_:=Aside0.mk (Kd.R_lower (Kd.R_newB ho0 (g:=gb321) (o:=.cells #[.int .i64 a1_0,.int .i64 a1_1] 30 (0,0)) (by (with_reducible repeat (first|refine kn_ ?_ _|refine kd_ ?_|refine ka_ ?_ _));exact BK321.out)) (below_size (by repeat (first|(with_reducible first|exact HB.out|apply ba_|apply bn_|apply bd_|refine below_set ?_ GE321.out)|exact HB.out))));have n1_:=Aside0.mk (blk_below (g:=gb321) (o:=.cells #[.int .i64 a1_0,.int .i64 a1_1] 30 (0,0)) (by (with_reducible repeat (first|refine kn_ ?_ _|refine kd_ ?_|refine ka_ ?_ _));exact BK321.out) hb);have n2_:=Aside0.mk (below_step (by repeat (first|(with_reducible first|exact HB.out|apply ba_|apply bn_|apply bd_|refine below_set ?_ GE321.out)|exact HB.out)) hb);clear BK321;clear HB;have HO325:=n0_;have BK321:=n1_;have HB:=n2_;clear n0_ n1_ n2_;(try clear hb);(try clear hb2);(try clear hk);(try clear hi);(try clear ho0);have hcz8_0 : w7.cell? ⟨gb321,0,none⟩ = some (.int .i64 a1_0):=(blk_cell BK321.out 0).trans rfl;have hcz8_1 : w7.cell? ⟨gb321,1,none⟩ = some (.int .i64 a1_1):=(blk_cell BK321.out 1).trans rfl;have hfz8_0:=blk_frozen BK321.out 0;have hfz8_1:=blk_frozen BK321.out 1;obtain ⟨Ao9,co9,eo9⟩:=Kd.R_slice HO325.out;subst eo9)|((with_reducible refine gate_callee (f:=33) rfl ?_);refine goesL_ (some 18) rfl rfl Try.func33 (by kernel_rfl) rfl #[.slice Ao9 t322.length co9,.agg #[.int .i64 a1_0,.int .i64 a1_1]] rfl (by (try simp only [List.map_toArray,List.map_cons,List.map_nil]);first|done|rfl|(simp only [List.length_drop,List.length_take];rfl)) ?_;(with_reducible refine (garmentref14_Interior.calls k _ _ t322 a1_0 a1_1 t326 _ ?side1 ?side2 A5.out).mono ?_);(case side1=>repeat (first|exact (Kd.R_reads' HO325.out).2.2|(with_reducible refine Kd.C_alloc ?_ _)|(with_reducible refine Kd.C_drewN ?_ _)|(with_reducible refine Kd.C_drew ?_)));(case side2=>exact (Kd.R_reads' HO325.out).2.1);rintro e w10 ⟨rfl,hb⟩;refine ⟨_,rfl,?_⟩;have n0_:=Aside0.mk (Kd.R_below (by (with_reducible repeat (first|apply ra_|apply rn_|apply rd_));exact HO325.out) hb);have n1_:=Aside0.mk (blk_below (g:=gb321) (o:=.cells #[.int .i64 a1_0,.int .i64 a1_1] 30 (0,0)) (by (with_reducible repeat (first|refine kn_ ?_ _|refine kd_ ?_|refine ka_ ?_ _));exact BK321.out) hb);have n2_:=Aside0.mk (below_step (by repeat (first|(with_reducible first|exact HB.out|apply ba_|apply bn_|apply bd_|refine below_set ?_ GE321.out)|exact HB.out)) hb);clear HO325;clear BK321;clear HB;have HO325:=n0_;have BK321:=n1_;have HB:=n2_;clear n0_ n1_ n2_;(try clear hb);(try clear hb2);(try clear hk);(try clear hi)))
  go_ret2
  exact ⟨by first|rfl|(simp [errW_none,errW_some] <;> rfl)|(simp [*,errW_none,errW_some] <;> rfl),by repeat (first|(with_reducible first|exact HB.out|apply ba_|apply bn_|apply bd_|refine below_set ?_ GE321.out)|exact HB.out)⟩
 rw [if_neg c4] at H
 have c4b0 : (t323 == 0) = false:=beq_eq_false_iff_ne.mpr c4
 have c4b1 : (t323 != 0) = true:=bne_iff_ne.mpr c4
 simp only [Option.some.injEq,Prod.mk.injEq] at H
 obtain ⟨rfl,rfl⟩:=H
 go_enter Try.func15,Try.ntmps15
 go_wp2_with (first|((with_reducible refine gate_dst (N:=3) rfl ?_);refine box_event ?hg (N:=3) ?hd (cs:=#[.int .i64 a1_0,.int .i64 a1_1]) (t:=30) ?hr ?_;(case hd=>rfl);(case hg=>rfl);(case hr=>first|(go_simp;done)|(go_simp;rfl));intro gb321 hg w11 hbox hb;have n0_:=Aside0.mk (below_step (by repeat (first|(with_reducible first|exact HB.out|apply ba_|apply bn_|apply bd_)|exact HB.out)) hb);have n1_:=Aside0.mk (hbox);have n2_:=Aside0.mk ((by rw [hg];exact (below_size (by repeat (first|(with_reducible first|exact HB.out|apply ba_|apply bn_|apply bd_)|exact HB.out))) : w.heap.size ≤ gb321));have n3_:=Aside0.mk ((by rw [hg];exact (below_size (by repeat (first|(with_reducible first|exact HB.out|apply ba_|apply bn_|apply bd_)|exact HB.out))) : w.heap.size ≤ gb321));clear HB;have HB:=n0_;have BK321:=n1_;have GW321:=n2_;have GE321:=n3_;clear n0_ n1_ n2_ n3_;clear hb hbox hg)|((with_reducible refine gate_callee (f:=12) rfl ?_);refine goesL_ (some 10) rfl rfl Try.func12 (by kernel_rfl) rfl #[.slice A0 l0.length c0] rfl (by (try simp only [List.map_toArray,List.map_cons,List.map_nil]);first|done|rfl|(simp only [List.length_drop,List.length_take];rfl)) ?_;(with_reducible refine (garmentref14_Hull.calls k _ _ l0 t322 t323 _ ?side1 ?side2 A3.out).mono ?_);(case side1=>repeat (first|exact (Kd.C_below HR0.out HB.out)|(with_reducible refine Kd.C_alloc ?_ _)|(with_reducible refine Kd.C_drewN ?_ _)|(with_reducible refine Kd.C_drew ?_)));(case side2=>exact HC0.out);rintro e w12 ⟨v324,rfl,ho0,hb⟩;refine ⟨_,rfl,?_⟩;have n0_:=Aside0.mk (Kd.R_lower (Kd.R_newB ho0 (g:=gb321) (o:=.cells #[.int .i64 a1_0,.int .i64 a1_1] 30 (0,0)) (by (with_reducible repeat (first|refine kn_ ?_ _|refine kd_ ?_|refine ka_ ?_ _));exact BK321.out)) (below_size (by repeat (first|(with_reducible first|exact HB.out|apply ba_|apply bn_|apply bd_|refine below_set ?_ GE321.out)|exact HB.out))));have n1_:=Aside0.mk (blk_below (g:=gb321) (o:=.cells #[.int .i64 a1_0,.int .i64 a1_1] 30 (0,0)) (by (with_reducible repeat (first|refine kn_ ?_ _|refine kd_ ?_|refine ka_ ?_ _));exact BK321.out) hb);have n2_:=Aside0.mk (below_step (by repeat (first|(with_reducible first|exact HB.out|apply ba_|apply bn_|apply bd_|refine below_set ?_ GE321.out)|exact HB.out)) hb);clear BK321;clear HB;have HO325:=n0_;have BK321:=n1_;have HB:=n2_;clear n0_ n1_ n2_;(try clear hb);(try clear hb2);(try clear hk);(try clear hi);(try clear ho0)))
 go_ret2
 exact ⟨by first|rfl|(simp [errW_none,errW_some] <;> rfl)|(simp [*,errW_none,errW_some] <;> rfl),by repeat (first|(with_reducible first|exact HB.out|apply ba_|apply bn_|apply bd_|refine below_set ?_ GE321.out)|exact HB.out)⟩

/-! ### garmentref14_Negate: function 17 -/
def garmentref14_Negate.l0 : Nat → List (S30) → List (S30) → Int → Option ((List (S30)))
 | 0,_,_,_=>none
 | k + 1,x0,x3,x4=>if x4 < (x0.length : Int) then (if 0 ≤ x4 then (if x3.length < 8796093022208 then (garmentref14_Negate.l0 k x0 (x3 ++ [(⟨wrap64 (-((rd_T30 x0 x4).f0)),wrap64 (-((rd_T30 x0 x4).f1))⟩ : S30)]) (wrap64 (x4 + 1))) else (none)) else (none)) else (some x3)
def garmentref14_Negate.f (k : Nat) (l0 : List (S30)) : Option ((List (S30))):=garmentref14_Negate.l0 k l0 ([] : List (S30)) 0
theorem garmentref14_Negate.mono_l : ∀ k,(∀ y0 y1 y2,LeO (garmentref14_Negate.l0 k y0 y1 y2) (garmentref14_Negate.l0 (k + 1) y0 y1 y2))
 | 0=>fun _ _ _ r h=>by simp [garmentref14_Negate.l0] at h
 | k + 1=>by
  have ih0:=garmentref14_Negate.mono_l k
  intro y0 y1 y2
  unfold garmentref14_Negate.l0
  repeat' first
  | (with_reducible exact ih0 _ _ _)
  | (with_reducible exact LeO.refl _)
  | (with_reducible exact LeO.none _)
  | (with_reducible refine LeO.ite ?_ ?_)
  | (with_reducible refine LeO.bind ?_ (fun _=>?_))
  | exact ih0 _ _ _
  | exact LeO.none _
  | refine LeO.ite ?_ ?_
  | refine LeO.bind ?_ (fun _=>?_)
theorem garmentref14_Negate.mono : ∀ a0 k,LeO (garmentref14_Negate.f k a0) (garmentref14_Negate.f (k + 1) a0):=by
 intro a0 k
 have ih0:=garmentref14_Negate.mono_l k
 unfold garmentref14_Negate.f
 repeat' first
   | (with_reducible exact ih0 _ _ _)
   | (with_reducible exact LeO.refl _)
   | (with_reducible exact LeO.none _)
   | (with_reducible refine LeO.ite ?_ ?_)
   | (with_reducible refine LeO.bind ?_ (fun _=>?_))
   | exact ih0 _ _ _
   | exact LeO.none _
   | refine LeO.ite ?_ ?_
   | refine LeO.bind ?_ (fun _=>?_)
def garmentref14_Negate.T5 : Bool × List (List Nat × List Nat):=(true,[([],[]),([],[]),([],[]),([1,2],[1,2]),([3],[3]),([4],[4]),([5],[5]),([],[]),([],[]),([7,8],[7,8]),([9],[9]),([10],[10]),([11],[11]),([6,12],[6,12]),([13],[13]),([0,14],[0,14]),([15,15,0,1,2,3,4,5,6,7,8,9,10,11,12,13,14,15],[0,15])])
def garmentref14_Negate.B5 : List Nat:=[0,0,0,6,14,30,62,0,0,384,896,1920,3968,8190,16382,32767,65535]
theorem garmentref14_Negate.tab5 : rtab .any (opsOf Try.f17 5) = garmentref14_Negate.T5:=by kernel_rfl
theorem garmentref14_Negate.bits5 : waitsOk garmentref14_Negate.T5.2 garmentref14_Negate.B5 = true:=by kernel_rfl
set_option maxHeartbeats 8000000 in
set_option maxRecDepth 100000 in
theorem garmentref14_Negate.calls (k : Nat) (A0 : Option Addr) (c0 : Nat) (l0 : List (S30)) (r : List (S30)) (w : World) (hr0 : Kd.C k30 w A0 l0.length l0) (hc0 : l0.length ≤ c0) (h : garmentref14_Negate.f k l0 = some r) :
  Calls Try.prog 17 #[.slice A0 l0.length c0] w fun e w'=>∃ v0_ : Value,e = .returned (v0_)∧Kd.R k30 30 w' w.heap.size (fun _=>True) v0_ r∧Below w.heap.size w w':=by
 have hu30:=Try.underlying30
 have HR0:=Aside0.mk hr0
 have HC0:=Aside0.mk hc0
 clear hr0 hc0
 have HB:=Aside0.mk (Below.refl w.heap.size w)
 have H : (garmentref14_Negate.l0 k l0 ([] : List (S30)) 0) = some r:=h
 clear h
 have H':=Aside0.mk H
 clear H
 go_enter Try.func17,Try.ntmps17
 go_wp2
 go_loopg [3,4] k (fun kq v3 v4 w'=>∃ (x3_1 : List (S30)) (x4_1 : Int),v4 = .int .i64 x4_1∧Aside0 (garmentref14_Negate.l0 kq l0 x3_1 x4_1 = some r)∧Aside0 (kq ≤ k)∧Aside0 (Kd.R k30 30 w' w.heap.size (fun _=>True) v3 x3_1)∧Aside0 (Below w.heap.size w w'))
 case atStart=>exact ⟨(([] : List (S30))),(0),(by first|rfl|(simp;done)|(simp [*];done)),H',⟨Nat.le_refl _⟩,⟨by first|exact Kd.R_nil _ _ _ _ _|exact Kd.N_nil _ _ _ _ _|exact Kd.V_nil _ _ _ _ _|exact Kd.Q_nil _ _ _ _ _|exact Kd.S_nil _ _ _ _ _⟩,⟨by repeat (first|(with_reducible first|exact HB.out|apply ba_|apply bn_|apply bd_)|exact HB.out)⟩⟩
 case round =>
  clear H'
  try clear c1
  obtain ⟨x3_1,x4_1,rfl,HA,HK1,HO_3,HB⟩:=hrel
  cases gk with
  | zero=>exact absurd HA.out (by simp [garmentref14_Negate.l0])
  | succ k1 =>
   have H:=HA.out
   clear HA
   simp only [garmentref14_Negate.l0] at H
   by_cases c2 : x4_1 < (l0.length : Int)
   ·
    rw [if_pos c2] at H
    have c2b0 : decide (x4_1 < (l0.length : Int)) = true:=decide_eq_true c2
    clear c2
    by_cases c3 : 0 ≤ x4_1
    ·
     rw [if_pos c3] at H
     have c3b0 : decide (0 ≤ x4_1) = true:=decide_eq_true c3
     clear c3
     by_cases c4 : x3_1.length < 8796093022208
     ·
      rw [if_pos c4] at H
      have LMc4:=Aside0.mk c4
      clear c4
      obtain ⟨y329,hy329⟩ : ∃ y_ : List (S30),y_ = (x3_1 ++ [(⟨wrap64 (-((rd_T30 l0 x4_1).f0)),wrap64 (-((rd_T30 l0 x4_1).f1))⟩ : S30)]):=⟨_,rfl⟩
      replace H : (garmentref14_Negate.l0 k1 l0 y329 (wrap64 (x4_1 + 1))) = some r:=by first|(rw [hy329];with_reducible exact H)|(have H2_:=(Option.bind_some _ _).symm.trans H;rw [hy329];with_reducible exact H2_)|(have H2_:=(Option.bind_some _ _).symm.trans H;with_reducible exact H2_)|with_reducible exact H|(rw [hy329];exact H)|exact H
      have Ny329:=Aside0.mk hy329
      clear hy329
      have H':=Aside0.mk H
      clear H
      try go_wp2
      have n0_:=Aside0.mk (rd_ HO_3.out)
      have n1_:=Aside0.mk (bd_ HB.out)
      clear HO_3
      clear HB
      have HO_3:=n0_
      have HB:=n1_
      clear n0_ n1_
      have p327 : 0 ≤ (x4_1 : Int):=of_decide_eq_true (by first|(with_reducible assumption)|assumption)
      have q327 : x4_1 < (l0.length : Int):=of_decide_eq_true (by first|(with_reducible assumption)|assumption)
      obtain ⟨ad327,e327,hx327_0,hx327_1⟩:=at_T30 HR0.out x4_1 p327 q327
      have hw327_1:=hx327_1
      have hw327_0:=hx327_0
      cases e327
      replace hx327_0:=(HB.out.cell (bl_ w _ hx327_0)).trans hx327_0
      replace hx327_1:=(HB.out.cell (bl_ w _ hx327_1)).trans hx327_1
      replace p327:=eq_true p327
      replace q327:=eq_true q327
      have p328 : 0 ≤ (x4_1 : Int):=of_decide_eq_true (by first|(with_reducible assumption)|assumption)
      have q328 : x4_1 < (l0.length : Int):=of_decide_eq_true (by first|(with_reducible assumption)|assumption)
      obtain ⟨ad328,e328,hx328_0,hx328_1⟩:=at_T30 HR0.out x4_1 p328 q328
      have hw328_1:=hx328_1
      have hw328_0:=hx328_0
      obtain rfl : ad327 = ad328:=(by injection e328)
      replace hx328_0:=(HB.out.cell (bl_ w _ hx328_0)).trans hx328_0
      replace hx328_1:=(HB.out.cell (bl_ w _ hx328_1)).trans hx328_1
      replace p328:=eq_true p328
      replace q328:=eq_true q328
      refine start_ (n:=17) (S:=fun w'=>w'.cell? (ad327.add ((x4_1).toNat * 2)) = some (.int .i64 ((rd_T30 l0 x4_1).f0))∧w'.cell? ⟨(ad327.add ((x4_1).toNat * 2)).block,(ad327.add ((x4_1).toNat * 2)).off + 1,none⟩ = some (.int .i64 ((rd_T30 l0 x4_1).f1))∧w'.cell? (ad327.add ((x4_1).toNat * 2)) = some (.int .i64 ((rd_T30 l0 x4_1).f0))∧w'.cell? ⟨(ad327.add ((x4_1).toNat * 2)).block,(ad327.add ((x4_1).toNat * 2)).off + 1,none⟩ = some (.int .i64 ((rd_T30 l0 x4_1).f1))) (ds:=[]) #[false,false,false,false,false,false,false,false,false,false,false,false,false,false,false,false,false] (by kernel_rfl) rfl rfl ⟨((HB.out.cell (bl_ w _ hw327_0)).trans hw327_0),((HB.out.cell (bl_ w _ hw327_1)).trans hw327_1),((HB.out.cell (bl_ w _ hw328_0)).trans hw328_0),((HB.out.cell (bl_ w _ hw328_1)).trans hw328_1)⟩ (fun hHeld=>?_);refine with_tabW garmentref14_Negate.tab5 garmentref14_Negate.bits5 (fun HT_ HW_=>?_)
      generalize wr.drew = w5 at HO_3 HB hx327_0 hx327_1 hx328_0 hx328_1 hHeld ⊢
      refine pure_ (i:=0) (N:=some 11) (v:=?_) (a':=?_) #[true,false,false,false,false,false,false,false,false,false,false,false,false,false,false,false,false] rfl rfl (any_of HT_.out (by kernel_rfl)) (fun _ _ _ h=>h) (Or.inl ⟨by rfl,?_⟩) ?_ ?_
      rotate_left
      ·
       intro w'
       go_simp
       with_reducible rfl
      rotate_left
      ·
       simp only [Act.put,la_,l0_,l1_,i64_w,i32_w]
       rfl
      refine pure_ (i:=1) (N:=some 12) (v:=?_) (a':=?_) #[true,true,false,false,false,false,false,false,false,false,false,false,false,false,false,false,false] rfl rfl (any_of HT_.out (by kernel_rfl)) (fun _ _ _ h=>h) (Or.inl ⟨by rfl,?_⟩) ?_ ?_
      rotate_left
      ·
       intro w'
       go_simp
       with_reducible rfl
      rotate_left
      ·
       simp only [Act.put,la_,l0_,l1_,i64_w,i32_w]
       rfl
      refine pure_ (i:=2) (N:=some 13) (v:=?_) (a':=?_) #[true,true,true,false,false,false,false,false,false,false,false,false,false,false,false,false,false] rfl rfl (any_of HT_.out (by kernel_rfl)) (fun _ _ _ h=>h) (Or.inl ⟨by rfl,?_⟩) ?_ ?_
      rotate_left
      ·
       intro w'
       go_simp
       with_reducible rfl
      rotate_left
      ·
       simp only [Act.put,la_,l0_,l1_,i64_w,i32_w]
       rfl
      refine pure_ (i:=3) (N:=some 14) (v:=?_) (a':=?_) #[true,true,true,true,false,false,false,false,false,false,false,false,false,false,false,false,false] rfl rfl (any_of HT_.out (by kernel_rfl)) (fun _ _ _ h=>h) (Or.inl ⟨by rfl,?_⟩) ?_ ?_
      rotate_left
      ·
       intro w'
       go_simp
       with_reducible rfl
      rotate_left
      ·
       simp only [Act.put,la_,l0_,l1_,i64_w,i32_w]
       rfl
      refine pure_ (i:=4) (N:=some 15) (v:=?_) (a':=?_) #[true,true,true,true,true,false,false,false,false,false,false,false,false,false,false,false,false] rfl rfl (any_of HT_.out (by kernel_rfl)) (fun _ _ _ h=>h) (Or.inl ⟨by rfl,?_⟩) ?_ ?_
      rotate_left
      ·
       intro w'
       go_simp
       with_reducible rfl
      rotate_left
      ·
       simp only [Act.put,la_,l0_,l1_,i64_w,i32_w]
       rfl
      refine pure_ (i:=7) (N:=some 18) (v:=?_) (a':=?_) #[true,true,true,true,true,false,false,true,false,false,false,false,false,false,false,false,false] rfl rfl (any_of HT_.out (by kernel_rfl)) (fun _ _ _ h=>h) (Or.inl ⟨by rfl,?_⟩) ?_ ?_
      rotate_left
      ·
       intro w'
       go_simp
       with_reducible rfl
      rotate_left
      ·
       simp only [Act.put,la_,l0_,l1_,i64_w,i32_w]
       rfl
      refine pure_ (i:=8) (N:=some 19) (v:=?_) (a':=?_) #[true,true,true,true,true,false,false,true,true,false,false,false,false,false,false,false,false] rfl rfl (any_of HT_.out (by kernel_rfl)) (fun _ _ _ h=>h) (Or.inl ⟨by rfl,?_⟩) ?_ ?_
      rotate_left
      ·
       intro w'
       go_simp
       with_reducible rfl
      rotate_left
      ·
       simp only [Act.put,la_,l0_,l1_,i64_w,i32_w]
       rfl
      refine pure_ (i:=9) (N:=some 20) (v:=?_) (a':=?_) #[true,true,true,true,true,false,false,true,true,true,false,false,false,false,false,false,false] rfl rfl (any_of HT_.out (by kernel_rfl)) (fun _ _ _ h=>h) (Or.inl ⟨by rfl,?_⟩) ?_ ?_
      rotate_left
      ·
       intro w'
       go_simp
       with_reducible rfl
      rotate_left
      ·
       simp only [Act.put,la_,l0_,l1_,i64_w,i32_w]
       rfl
      refine pure_ (i:=10) (N:=some 21) (v:=?_) (a':=?_) #[true,true,true,true,true,false,false,true,true,true,true,false,false,false,false,false,false] rfl rfl (any_of HT_.out (by kernel_rfl)) (fun _ _ _ h=>h) (Or.inl ⟨by rfl,?_⟩) ?_ ?_
      rotate_left
      ·
       intro w'
       go_simp
       with_reducible rfl
      rotate_left
      ·
       simp only [Act.put,la_,l0_,l1_,i64_w,i32_w]
       rfl
      refine take_ (i:=5) (N:=some 16) (v:=?_) (a':=?_) #[true,true,true,true,true,true,false,true,true,true,true,false,false,false,false,false,false] rfl rfl (take_ofW HT_.out HW_.out (by kernel_rfl)) (fun _ _ _ h=>h) (Or.inl ⟨by rfl,?_⟩) hHeld ?_ ?_
      rotate_left
      ·
       rintro w' ⟨s0,s1,s2,s3⟩
       go_simp
       with_reducible rfl
      rotate_left
      ·
       simp only [Act.put,la_,l0_,l1_,i64_w,i32_w]
       rfl
      refine pure_ (i:=6) (N:=some 17) (v:=?_) (a':=?_) #[true,true,true,true,true,true,true,true,true,true,true,false,false,false,false,false,false] rfl rfl (any_of HT_.out (by kernel_rfl)) (fun _ _ _ h=>h) (Or.inl ⟨by rfl,?_⟩) ?_ ?_
      rotate_left
      ·
       intro w'
       go_simp
       with_reducible rfl
      rotate_left
      ·
       simp only [Act.put,la_,l0_,l1_,i64_w,i32_w]
       rfl
      refine take_ (i:=11) (N:=some 22) (v:=?_) (a':=?_) #[true,true,true,true,true,true,true,true,true,true,true,true,false,false,false,false,false] rfl rfl (take_ofW HT_.out HW_.out (by kernel_rfl)) (fun _ _ _ h=>h) (Or.inl ⟨by rfl,?_⟩) hHeld ?_ ?_
      rotate_left
      ·
       rintro w' ⟨s0,s1,s2,s3⟩
       go_simp
       with_reducible rfl
      rotate_left
      ·
       simp only [Act.put,la_,l0_,l1_,i64_w,i32_w]
       rfl
      refine pure_ (i:=12) (N:=some 23) (v:=?_) (a':=?_) #[true,true,true,true,true,true,true,true,true,true,true,true,true,false,false,false,false] rfl rfl (any_of HT_.out (by kernel_rfl)) (fun _ _ _ h=>h) (Or.inl ⟨by rfl,?_⟩) ?_ ?_
      rotate_left
      ·
       intro w'
       go_simp
       with_reducible rfl
      rotate_left
      ·
       simp only [Act.put,la_,l0_,l1_,i64_w,i32_w]
       rfl
      refine pure_ (i:=13) (N:=some 24) (v:=?_) (a':=?_) #[true,true,true,true,true,true,true,true,true,true,true,true,true,true,false,false,false] rfl rfl (any_of HT_.out (by kernel_rfl)) (fun _ _ _ h=>h) (Or.inl ⟨by rfl,?_⟩) ?_ ?_
      rotate_left
      ·
       intro w'
       go_simp
       with_reducible rfl
      rotate_left
      ·
       simp only [Act.put,la_,l0_,l1_,i64_w,i32_w]
       rfl
      refine one_ (i:=14) (N:=some 25) #[true,true,true,true,true,true,true,true,true,true,true,true,true,true,true,false,false] rfl rfl (one_of HT_.out (by kernel_rfl)) (by decide) (fun K hK=>?_)
      refine value_ (w1:=?_) (v:=?_) (by rfl) rfl ?_ ?_
      rotate_left 2
      ·
       go_simp
       constructor
       ·
        rfl
       rfl
      refine hK.out _ _ ⟨(World.cell?_alloc_lt _ _ _ (bl_ _ _ (((HB.out.cell (bl_ w _ hw327_0)).trans hw327_0)))).trans (((HB.out.cell (bl_ w _ hw327_0)).trans hw327_0)),(World.cell?_alloc_lt _ _ _ (bl_ _ _ (((HB.out.cell (bl_ w _ hw327_1)).trans hw327_1)))).trans (((HB.out.cell (bl_ w _ hw327_1)).trans hw327_1)),(World.cell?_alloc_lt _ _ _ (bl_ _ _ (((HB.out.cell (bl_ w _ hw328_0)).trans hw328_0)))).trans (((HB.out.cell (bl_ w _ hw328_0)).trans hw328_0)),(World.cell?_alloc_lt _ _ _ (bl_ _ _ (((HB.out.cell (bl_ w _ hw328_1)).trans hw328_1)))).trans (((HB.out.cell (bl_ w _ hw328_1)).trans hw328_1))⟩ (fun hHeld=>?_)
      clear hK K
      refine norm_ (a':=?_) ?_ ?_
      rotate_left
      ·
       show Act.put _ (some 25) _ = _
       simp only [Act.put,la_,l0_,l1_,i64_w,i32_w]
       rfl
      refine one_ (i:=15) (N:=some 26) #[true,true,true,true,true,true,true,true,true,true,true,true,true,true,true,true,false] rfl rfl (one_of HT_.out (by kernel_rfl)) (by decide) (fun K hK=>?_)
      refine Kd.R_append_step k30 (w0:=w) w.heap.size (by rfl) (.tmp 11) (.tmp 25) 22 30 (.agg #[(.int .i64 0),(.int .i64 0)]) 16 rfl Try.underlying22 info30 rfl (by decide) (by omega) u3 x3_1 (⟨wrap64 (-((rd_T30 l0 x4_1).f0)),wrap64 (-((rd_T30 l0 x4_1).f1))⟩ : S30) [.int .i64 (wrap64 (-((rd_T30 l0 x4_1).f0))),.int .i64 (wrap64 (-((rd_T30 l0 x4_1).f1)))] (fun _=>True) (fun _=>False) rfl rfl ?aP (fun _ hk=>hk.elim) ?aF ?aO ?aB ?aS ?aL ?_
      (case aP=>exact k30_mkM _ _ _ (⟨wrap64 (-((rd_T30 l0 x4_1).f0)),wrap64 (-((rd_T30 l0 x4_1).f1))⟩ : S30))
      (case aB=>exact (by repeat (first|(with_reducible first|exact HB.out|apply ba_|apply bn_|apply bd_)|exact HB.out)))
      (case aF=>exact (fun _ _=>trivial))
      (case aO=>exact (by (with_reducible repeat (first|apply ra_|apply rn_|apply rd_));exact HO_3.out))
      (case aS=>exact (below_size (by repeat (first|(with_reducible first|exact HB.out|apply ba_|apply bn_|apply bd_)|exact HB.out))))
      (case aL=>have:=LMc4.out;omega)
      intro v330 w6 ho hb hg hat
      rw [← Ny329.out] at ho
      have n0_:=Aside0.mk (hb)
      have n1_:=Aside0.mk (ho)
      clear HB
      clear HO_3
      have HB:=n0_
      have HO331:=n1_
      clear n0_ n1_
      clear ho hb hg hat
      refine hK.out _ _ ⟨((HB.out.cell (bl_ w _ hw327_0)).trans hw327_0),((HB.out.cell (bl_ w _ hw327_1)).trans hw327_1),((HB.out.cell (bl_ w _ hw328_0)).trans hw328_0),((HB.out.cell (bl_ w _ hw328_1)).trans hw328_1)⟩ (fun hHeld=>?_)
      clear hK K
      refine norm_ (a':=?_) ?_ ?_
      rotate_left
      ·
       show Act.put _ (some 26) _ = _
       simp only [Act.put,la_,l0_,l1_,i64_w,i32_w]
       rfl
      refine pure_ (i:=16) (N:=some 3) (v:=?_) (a':=?_) #[true,true,true,true,true,true,true,true,true,true,true,true,true,true,true,true,true] rfl rfl (any_of HT_.out (by kernel_rfl)) (fun _ _ _ h=>h) (Or.inl ⟨by rfl,?_⟩) ?_ ?_
      rotate_left
      ·
       intro w'
       go_simp
       with_reducible rfl
      rotate_left
      ·
       simp only [Act.put,la_,l0_,l1_,i64_w,i32_w]
       rfl
      refine done_ (done_of HT_.out (by kernel_rfl)) ?_
      try go_wp2
      go_roundg k1
      case measure=>have:=HK1.out;omega
      case rel=>exact ⟨(y329),(wrap64 (x4_1 + 1)),(by first|rfl|(simp;done)|(simp [*];done)),H',⟨by have:=HK1.out;omega⟩,⟨by (with_reducible repeat (first|apply ra_|apply rn_|apply rd_));exact HO331.out⟩,⟨by repeat (first|(with_reducible first|exact HB.out|apply ba_|apply bn_|apply bd_)|exact HB.out)⟩⟩
     rw [if_neg c4] at H
     exact absurd H (by simp)
    rw [if_neg c3] at H
    exact absurd H (by simp)
   rw [if_neg c2] at H
   have c2b0 : decide (x4_1 < (l0.length : Int)) = false:=decide_eq_false c2
   clear c2
   obtain rfl:=Option.some.inj H
   go_wp2
   go_ret
   exact ⟨_,by first|rfl|(simp [errW_none,errW_some] <;> rfl)|(simp [*,errW_none,errW_some] <;> rfl),by (with_reducible repeat (first|apply ra_|apply rn_|apply rd_));exact HO_3.out,by repeat (first|(with_reducible first|exact HB.out|apply ba_|apply bn_|apply bd_)|exact HB.out)⟩

/-! ### garmentref14_limited: function 35 -/
def garmentref14_limited.f (a0 : Int) (a1 : Int) : Option (Int):=some (mx (wrap64 (-a1)) (mn a0 a1))
set_option maxHeartbeats 8000000 in
set_option maxRecDepth 100000 in
theorem garmentref14_limited.calls (a0 : Int) (a1 : Int) (r : Int) (w : World) (h : garmentref14_limited.f a0 a1 = some r) :
  Calls Try.prog 35 #[.int .i64 a0,.int .i64 a1] w fun e w'=>e = .returned (.int .i64 r)∧Below w.heap.size w w':=by
 have HB:=Aside0.mk (Below.refl w.heap.size w)
 have H : (some (mx (wrap64 (-a1)) (mn a0 a1))) = some r:=h
 clear h
 obtain ⟨ji3,hji3⟩ : ∃ j_ : Int,(mn a0 a1) = j_:=⟨_,rfl⟩
 replace H : (some (mx (wrap64 (-a1)) (ji3))) = some r:=by first|(rw [hji3] at H;exact H)|(simp only [hji3] at H ⊢;exact H)
 have hji3_ : (if a1 < a0 then a1 else a0) = ji3:=hji3
 obtain ⟨ji4,hji4⟩ : ∃ j_ : Int,(mx (wrap64 (-a1)) (ji3)) = j_:=⟨_,rfl⟩
 replace H : (some ji4) = some r:=by first|(rw [hji4] at H;exact H)|(simp only [hji4] at H ⊢;exact H)
 have hji4_ : (if (wrap64 (-a1)) < (ji3) then (ji3) else (wrap64 (-a1))) = ji4:=hji4
 obtain rfl:=Option.some.inj H
 go_enter Try.func35,Try.ntmps35
 go_wp2
 go_ret
 exact ⟨by first|rfl|(simp [errW_none,errW_some] <;> rfl)|(simp only [← hji3,← hji4];first|rfl|(simp [errW_none,errW_some] <;> rfl))|(simp [*,errW_none,errW_some] <;> rfl),by repeat (first|(with_reducible first|exact HB.out|apply ba_|apply bn_|apply bd_)|exact HB.out)⟩

end Go.Proofs.Ytlnigbhimdphoaa.C
