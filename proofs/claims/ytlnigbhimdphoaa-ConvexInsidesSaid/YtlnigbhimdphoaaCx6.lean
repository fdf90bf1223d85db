-- PRINTED by print.py (a twelfth state) out of the translation. Not trusted: Lean checks it.
import Derived.Test.YtlnigbhimdphoaaCx0
namespace Go.Proofs.Ytlnigbhimdphoaa.C
open Go.RowKit Go.Proofs.YtlnigbhimdphoaaW.PrintWords Go.Proofs.YtlnigbhimdphoaaW.PrintLast Go.Proofs.YtlnigbhimdphoaaW.PrintMore
attribute [local go_sem] max2_int min2_int max_two min_two max_three min_three max_four min_four Go.Proofs.Ytlnigbhimdphoaa.Aid.isSome_setCell   -- for this text's walks alone
set_option linter.unusedVariables false
set_option linter.unusedSimpArgs false

/-! ### convex_Negate: function 16 -/
def convex_Negate.l0 : Nat → List (S30) → List (S30) → Int → Int → Option ((List (S30)))
 | 0,_,_,_,_=>none
 | k + 1,x3,x9,x10,x11=>if x11 < x10 then (if 0 ≤ x11 then (if x11 < (x9.length : Int) then (if x3.length < 8796093022208 then (convex_Negate.l0 k (x3 ++ [(⟨wrap64 (-((rd_T30 x9 x11).f0)),wrap64 (-((rd_T30 x9 x11).f1))⟩ : S30)]) x9 x10 (wrap64 (x11 + 1))) else (none)) else (none)) else (none)) else (some x3)
def convex_Negate.f (k : Nat) (l0 : List (S30)) : Option ((List (S30))):=if 0 ≤ (l0.length : Int) then (if ((l0.length : Int) : Int).toNat ≤ 17592186044416 then (convex_Negate.l0 k (([] : List (S30))) l0 (l0.length : Int) 0) else (none)) else (none)
theorem convex_Negate.mono_l : ∀ k,(∀ y0 y1 y2 y3,LeO (convex_Negate.l0 k y0 y1 y2 y3) (convex_Negate.l0 (k + 1) y0 y1 y2 y3))
 | 0=>fun _ _ _ _ r h=>by simp [convex_Negate.l0] at h
 | k + 1=>by
  have ih0:=convex_Negate.mono_l k
  intro y0 y1 y2 y3
  unfold convex_Negate.l0
  repeat' first
  | (with_reducible exact ih0 _ _ _ _)
  | (with_reducible exact LeO.refl _)
  | (with_reducible exact LeO.none _)
  | (with_reducible refine LeO.ite ?_ ?_)
  | (with_reducible refine LeO.bind ?_ (fun _=>?_))
  | exact ih0 _ _ _ _
  | exact LeO.none _
  | refine LeO.ite ?_ ?_
  | refine LeO.bind ?_ (fun _=>?_)
theorem convex_Negate.mono : ∀ a0 k,LeO (convex_Negate.f k a0) (convex_Negate.f (k + 1) a0):=by
 intro a0 k
 have ih0:=convex_Negate.mono_l k
 unfold convex_Negate.f
 repeat' first
   | (with_reducible exact ih0 _ _ _ _)
   | (with_reducible exact LeO.refl _)
   | (with_reducible exact LeO.none _)
   | (with_reducible refine LeO.ite ?_ ?_)
   | (with_reducible refine LeO.bind ?_ (fun _=>?_))
   | exact ih0 _ _ _ _
   | exact LeO.none _
   | refine LeO.ite ?_ ?_
   | refine LeO.bind ?_ (fun _=>?_)
set_option maxHeartbeats 8000000 in
set_option maxRecDepth 100000 in
theorem convex_Negate.calls (k : Nat) (A0 : Option Addr) (c0 : Nat) (l0 : List (S30)) (r : List (S30)) (w : World) (hr0 : Kd.C k30 w A0 l0.length l0) (hc0 : l0.length ≤ c0) (h : convex_Negate.f k l0 = some r) :
  Calls Try.prog 16 #[.slice A0 l0.length c0] w fun e w'=>∃ v0_ : Value,e = .returned (v0_)∧Kd.R k30 30 w' w.heap.size (fun _=>True) v0_ r∧Below w.heap.size w w':=by
 have hu30:=Try.underlying30
 have HR0:=Aside0.mk hr0
 have HC0:=Aside0.mk hc0
 clear hr0 hc0
 have HB:=Aside0.mk (Below.refl w.heap.size w)
 have H : (if 0 ≤ (l0.length : Int) then (if ((l0.length : Int) : Int).toNat ≤ 17592186044416 then (convex_Negate.l0 k (([] : List (S30))) l0 (l0.length : Int) 0) else (none)) else (none)) = some r:=h
 clear h
 by_cases c2 : 0 ≤ (l0.length : Int)
 ·
  rw [if_pos c2] at H
  have c2b0:=eq_true c2
  have c2b1 : decide (0 ≤ (l0.length : Int)) = true:=decide_eq_true c2
  clear c2
  by_cases c3 : ((l0.length : Int) : Int).toNat ≤ 17592186044416
  ·
   rw [if_pos c3] at H
   have c3b0:=eq_true c3
   have c3b1 : decide (((l0.length : Int) : Int).toNat ≤ 17592186044416) = true:=decide_eq_true c3
   clear c3
   obtain ⟨y160,hy160⟩ : ∃ y_ : List (S30),y_ = (([] : List (S30))):=⟨_,rfl⟩
   replace H : (convex_Negate.l0 k y160 l0 (l0.length : Int) 0) = some r:=by first|(rw [hy160];with_reducible exact H)|(have H2_:=(Option.bind_some _ _).symm.trans H;rw [hy160];with_reducible exact H2_)|(have H2_:=(Option.bind_some _ _).symm.trans H;with_reducible exact H2_)|with_reducible exact H|(rw [hy160];exact H)|exact H
   have Ny160:=Aside0.mk hy160
   clear hy160
   have H':=Aside0.mk H
   clear H
   go_enter Try.func16,Try.ntmps16
   go_wp2_with (first|((with_reducible refine gate_dst (N:=8) rfl ?_);refine Kd.R_make0 k30 _ 30 rfl (N:=8) rfl 22 _ _ rfl (l0.length : Int) rfl rfl Try.underlying22 (.agg #[(.int .i64 0),(.int .i64 0)]) 16 info30 (by decide) (by omega) (ok:=fun _=>True) trivial (of_decide_eq_true (by first|(with_reducible assumption)|assumption)) (Nat.le_trans (Nat.mul_le_mul_right _ (of_decide_eq_true (by first|(with_reducible assumption)|assumption) : (l0.length : Int).toNat ≤ 17592186044416)) (by omega)) (Below.refl _ _) (Nat.le_refl _) ?_;intro v161 w4 ho5 hb hg_ hnew_;clear hg_ hnew_;(first|rw [← Ny160.out] at ho5|(simp only [Int.reduceToNat] at ho5;rw [← Ny160.out] at ho5));have n0_:=Aside0.mk (Kd.R_lower ho5 (below_size (by repeat (first|(with_reducible first|exact HB.out|apply ba_|apply bn_|apply bd_)|exact HB.out))));have n1_:=Aside0.mk (below_step (by repeat (first|(with_reducible first|exact HB.out|apply ba_|apply bn_|apply bd_)|exact HB.out)) hb);clear HB;have HO162:=n0_;have HB:=n1_;clear n0_ n1_;clear hb ho5))
   go_loopg [3,11] k (fun kq v3 v11 w'=>∃ (x3_1 : List (S30)) (x11_1 : Int),v11 = .int .i64 x11_1∧Aside0 (convex_Negate.l0 kq x3_1 l0 (l0.length : Int) x11_1 = some r)∧Aside0 (kq ≤ k)∧Aside0 (Kd.R k30 30 w' w.heap.size (fun _=>True) v3 x3_1)∧Aside0 (Below w.heap.size w w'))
   case atStart=>exact ⟨(y160),(0),(by first|rfl|(simp;done)|(simp [*];done)),H',⟨Nat.le_refl _⟩,⟨by (with_reducible repeat (first|apply ra_|apply rn_|apply rd_));exact HO162.out⟩,⟨by repeat (first|(with_reducible first|exact HB.out|apply ba_|apply bn_|apply bd_)|exact HB.out)⟩⟩
   case round =>
    clear H'
    try clear c1
    try clear c2
    try clear c2b0
    try clear c2b1
    try clear p2
    try clear c3
    try clear c3b0
    try clear c3b1
    obtain ⟨x3_1,x11_1,rfl,HA,HK1,HO_3,HB⟩:=hrel
    cases gk with
    | zero=>exact absurd HA.out (by simp [convex_Negate.l0])
    | succ k1 =>
     have H:=HA.out
     clear HA
     simp only [convex_Negate.l0] at H
     by_cases c6 : x11_1 < (l0.length : Int)
     ·
      rw [if_pos c6] at H
      have c6b0 : decide (x11_1 < (l0.length : Int)) = true:=decide_eq_true c6
      clear c6
      by_cases c7 : 0 ≤ x11_1
      ·
       rw [if_pos c7] at H
       have c7b0 : decide (0 ≤ x11_1) = true:=decide_eq_true c7
       clear c7
       by_cases c8 : x11_1 < (l0.length : Int)
       ·
        rw [if_pos c8] at H
        have c8b0 : decide (x11_1 < (l0.length : Int)) = true:=decide_eq_true c8
        clear c8
        by_cases c9 : x3_1.length < 8796093022208
        ·
         rw [if_pos c9] at H
         have LMc9:=Aside0.mk c9
         clear c9
         obtain ⟨y165,hy165⟩ : ∃ y_ : List (S30),y_ = (x3_1 ++ [(⟨wrap64 (-((rd_T30 l0 x11_1).f0)),wrap64 (-((rd_T30 l0 x11_1).f1))⟩ : S30)]):=⟨_,rfl⟩
         replace H : (convex_Negate.l0 k1 y165 l0 (l0.length : Int) (wrap64 (x11_1 + 1))) = some r:=by first|(rw [hy165];with_reducible exact H)|(have H2_:=(Option.bind_some _ _).symm.trans H;rw [hy165];with_reducible exact H2_)|(have H2_:=(Option.bind_some _ _).symm.trans H;with_reducible exact H2_)|with_reducible exact H|(rw [hy165];exact H)|exact H
         have Ny165:=Aside0.mk hy165
         clear hy165
         have H':=Aside0.mk H
         clear H
         have p163 : 0 ≤ (x11_1 : Int):=of_decide_eq_true (by first|(with_reducible assumption)|assumption)
         have q163 : x11_1 < (l0.length : Int):=of_decide_eq_true (by first|(with_reducible assumption)|assumption)
         obtain ⟨ad163,e163,hx163_0,hx163_1⟩:=at_T30 HR0.out x11_1 p163 q163
         cases e163
         replace hx163_0:=(HB.out.cell (bl_ w _ hx163_0)).trans hx163_0
         replace hx163_1:=(HB.out.cell (bl_ w _ hx163_1)).trans hx163_1
         replace p163:=eq_true p163
         replace q163:=eq_true q163
         go_wp2_with (first|((with_reducible refine gate_dst (N:=5) rfl ?_);refine box_event ?hg (N:=5) ?hd (cs:=#[.int .i64 0,.int .i64 0]) (t:=30) ?hr ?_;(case hd=>rfl);(case hg=>rfl);(case hr=>first|(go_simp;done)|(go_simp;rfl));intro gb164 hg w10 hbox hb;have n0_:=Aside0.mk (Kd.R_below (Kd.R_elderB (by (with_reducible repeat (first|apply ra_|apply rn_|apply rd_));exact HO_3.out) gb164 (Nat.le_of_eq hg.symm)) hb);have n1_:=Aside0.mk (below_step (by repeat (first|(with_reducible first|exact HB.out|apply ba_|apply bn_|apply bd_)|exact HB.out)) hb);have n2_:=Aside0.mk (hbox);have n3_:=Aside0.mk ((by rw [hg];exact (below_size (by repeat (first|(with_reducible first|exact HB.out|apply ba_|apply bn_|apply bd_)|exact HB.out))) : w.heap.size ≤ gb164));have n4_:=Aside0.mk ((by rw [hg];exact (below_size (by repeat (first|(with_reducible first|exact HB.out|apply ba_|apply bn_|apply bd_)|exact HB.out))) : w.heap.size ≤ gb164));clear HO_3;clear HB;have HO_3:=n0_;have HB:=n1_;have BK164:=n2_;have GW164:=n3_;have GE164:=n4_;clear n0_ n1_ n2_ n3_ n4_;clear hb hbox hg;have hcz11_0 : w10.cell? ⟨gb164,0,none⟩ = some (.int .i64 0):=(blk_cell BK164.out 0).trans rfl;have hcz11_1 : w10.cell? ⟨gb164,1,none⟩ = some (.int .i64 0):=(blk_cell BK164.out 1).trans rfl;have hfz11_0:=blk_frozen BK164.out 0;have hfz11_1:=blk_frozen BK164.out 1)|((with_reducible refine gate_builtin (b:=.append) (xs:=#[.tmp 15,.tmp 23]) rfl ?_);at_builtin;refine Kd.R_append k30 (w0:=w) w.heap.size rfl (.tmp 15) (.tmp 23) 22 30 (.agg #[(.int .i64 0),(.int .i64 0)]) 16 rfl Try.underlying22 info30 rfl (by decide) (by omega) u3 x3_1 (⟨wrap64 (-((rd_T30 l0 x11_1).f0)),wrap64 (-((rd_T30 l0 x11_1).f1))⟩ : S30) [.int .i64 (wrap64 (-((rd_T30 l0 x11_1).f0))),.int .i64 (wrap64 (-((rd_T30 l0 x11_1).f1)))] (fun k_=>k_ ≠ gb164) (fun _=>False) rfl (by first|(go_simp;done)|(go_simp;rfl)) ?aP (fun _ hk=>hk.elim) ?aF ?aO ?aB ?aS ?aL ?_;(case aP=>exact k30_mkM _ _ _ (⟨wrap64 (-((rd_T30 l0 x11_1).f0)),wrap64 (-((rd_T30 l0 x11_1).f1))⟩ : S30));(case aB=>exact (by repeat (first|(with_reducible first|exact HB.out|apply ba_|apply bn_|apply bd_|refine below_set ?_ GE164.out)|exact HB.out)));(case aF=>exact (fun k_ hk=>Kd.freshB (g:=gb164) (o:=.cells #[.int .i64 ((rd_T30 l0 x11_1).f0),.int .i64 ((rd_T30 l0 x11_1).f1)] 30 (0,0)) (by (with_reducible repeat (first|refine kn_ ?_ _|refine kd_ ?_|refine ka_ ?_ _));refine blk_put (cs:=#[.int .i64 ((rd_T30 l0 x11_1).f0),.int .i64 0]) ?_ 1 _ rfl;(with_reducible repeat (first|refine kn_ ?_ _|refine kd_ ?_|refine ka_ ?_ _));refine blk_put (cs:=#[.int .i64 0,.int .i64 0]) ?_ 0 _ rfl;(with_reducible repeat (first|refine kn_ ?_ _|refine kd_ ?_|refine ka_ ?_ _));exact BK164.out) k_ hk));(case aO=>exact (by (with_reducible repeat (first|apply ra_|apply rn_|apply rd_));exact Kd.R_mono (Kd.R_far (p:=⟨gb164,1,none⟩) (Kd.R_far (p:=⟨gb164,0,none⟩) (Kd.R_mono HO_3.out (fun k_ hk=>(⟨hk,hk.2⟩ : _∧k_ ≠ gb164))) (fun _ hk=>hk.2) (.int .i64 ((rd_T30 l0 x11_1).f0))) (fun _ hk=>hk.2) (.int .i64 ((rd_T30 l0 x11_1).f1))) (fun _ hk=>hk.1.2)));(case aS=>exact (below_size (by repeat (first|(with_reducible first|exact HB.out|apply ba_|apply bn_|apply bd_|refine below_set ?_ GE164.out)|exact HB.out))));(case aL=>have:=LMc9.out;omega);intro v166 w12 ho hb hg hat;rw [← Ny165.out] at ho;have n0_:=Aside0.mk (blk_grown (g:=gb164) (o:=.cells #[.int .i64 ((rd_T30 l0 x11_1).f0),.int .i64 ((rd_T30 l0 x11_1).f1)] 30 (0,0)) (by (with_reducible repeat (first|refine kn_ ?_ _|refine kd_ ?_|refine ka_ ?_ _));refine blk_put (cs:=#[.int .i64 ((rd_T30 l0 x11_1).f0),.int .i64 0]) ?_ 1 _ rfl;(with_reducible repeat (first|refine kn_ ?_ _|refine kd_ ?_|refine ka_ ?_ _));refine blk_put (cs:=#[.int .i64 0,.int .i64 0]) ?_ 0 _ rfl;(with_reducible repeat (first|refine kn_ ?_ _|refine kd_ ?_|refine ka_ ?_ _));exact BK164.out) hg (Kd.R_away HO_3.out (fun _ hk=>hk.2)));have n1_:=Aside0.mk (hb);have n2_:=Aside0.mk (ho);clear BK164;clear HB;clear HO_3;have BK164:=n0_;have HB:=n1_;have HO167:=n2_;clear n0_ n1_ n2_;clear ho hb hg hat))
         go_roundg k1
         case measure=>have:=HK1.out;omega
         case rel=>exact ⟨(y165),(wrap64 (x11_1 + 1)),(by first|rfl|(simp;done)|(simp [*];done)),H',⟨by have:=HK1.out;omega⟩,⟨by (with_reducible repeat (first|apply ra_|apply rn_|apply rd_));exact Kd.R_mono HO167.out (fun _ hk=>trivial)⟩,⟨by repeat (first|(with_reducible first|exact HB.out|apply ba_|apply bn_|apply bd_|refine below_set ?_ GE164.out)|exact HB.out)⟩⟩
        rw [if_neg c9] at H
        exact absurd H (by simp)
       rw [if_neg c8] at H
       exact absurd H (by simp)
      rw [if_neg c7] at H
      exact absurd H (by simp)
     rw [if_neg c6] at H
     have c6b0 : decide (x11_1 < (l0.length : Int)) = false:=decide_eq_false c6
     clear c6
     obtain rfl:=Option.some.inj H
     go_wp2
     go_ret
     exact ⟨_,by first|rfl|(simp [errW_none,errW_some] <;> rfl)|(simp [*,errW_none,errW_some] <;> rfl),by (with_reducible repeat (first|apply ra_|apply rn_|apply rd_));exact HO_3.out,by repeat (first|(with_reducible first|exact HB.out|apply ba_|apply bn_|apply bd_)|exact HB.out)⟩
  rw [if_neg c3] at H
  exact absurd H (by simp)
 rw [if_neg c2] at H
 exact absurd H (by simp)

/-! ### convex_limit: function 34 -/
def convex_limit.f (a0 : Int) (a1 : Int) : Option (Int):=some (mx (wrap64 (-a1)) (mn a0 a1))
set_option maxHeartbeats 8000000 in
set_option maxRecDepth 100000 in
theorem convex_limit.calls (a0 : Int) (a1 : Int) (r : Int) (w : World) (h : convex_limit.f a0 a1 = some r) :
  Calls Try.prog 34 #[.int .i64 a0,.int .i64 a1] w fun e w'=>e = .returned (.int .i64 r)∧Below w.heap.size w w':=by
 have HB:=Aside0.mk (Below.refl w.heap.size w)
 have H : (some (mx (wrap64 (-a1)) (mn a0 a1))) = some r:=h
 clear h
 obtain ⟨ji3,hji3⟩ : ∃ j_ : Int,(mn a0 a1) = j_:=⟨_,rfl⟩
 replace H : (some (mx (wrap64 (-a1)) (ji3))) = some r:=by first|(rw [hji3] at H;exact H)|(simp only [hji3] at H ⊢;exact H)
 have hji3_ : (if a1 < a0 then a1 else a0) = ji3:=hji3
 obtain ⟨ji4,hji4⟩ : ∃ j_ : Int,(mx (wrap64 (-a1)) (ji3)) = j_:=⟨_,rfl⟩
 replace H : (some ji4) = some r:=by first|(rw [hji4] at H;exact H)|(simp only [hji4] at H ⊢;exact H)
 have hji4_ : (if (wrap64 (-a1)) < (ji3) then (ji3) else (wrap64 (-a1))) = ji4:=hji4
 obtain rfl:=Option.some.inj H
 go_enter Try.func34,Try.ntmps34
 go_wp2
 go_ret
 exact ⟨by first|rfl|(simp [errW_none,errW_some] <;> rfl)|(simp only [← hji3,← hji4];first|rfl|(simp [errW_none,errW_some] <;> rfl))|(simp [*,errW_none,errW_some] <;> rfl),by repeat (first|(with_reducible first|exact HB.out|apply ba_|apply bn_|apply bd_)|exact HB.out)⟩

end Go.Proofs.Ytlnigbhimdphoaa.C
