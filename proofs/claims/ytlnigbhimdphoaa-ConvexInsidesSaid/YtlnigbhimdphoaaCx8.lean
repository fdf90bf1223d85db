-- PRINTED by print.py (a twelfth state) out of the translation. Not trusted: Lean checks it.
import Derived.Test.YtlnigbhimdphoaaCx0
namespace Go.Proofs.Ytlnigbhimdphoaa.C
open Go.RowKit Go.Proofs.YtlnigbhimdphoaaW.PrintWords Go.Proofs.YtlnigbhimdphoaaW.PrintLast Go.Proofs.YtlnigbhimdphoaaW.PrintMore
attribute [local go_sem] max2_int min2_int max_two min_two max_three min_three max_four min_four Go.Proofs.Ytlnigbhimdphoaa.Aid.isSome_setCell   -- for this text's walks alone
set_option linter.unusedVariables false
set_option linter.unusedSimpArgs false

/-! ### convex_way: function 36 -/
def convex_way.f (l0 : List (S30)) (a1 : Int) : Option (Int × Int):=if (l0.length : Int) = 0 then (none) else (if 0 ≤ (Int.tmod a1 (l0.length : Int)) then (if (Int.tmod a1 (l0.length : Int)) < (l0.length : Int) then (if 0 ≤ (Int.tmod (wrap64 (a1 + 1)) (l0.length : Int)) then (if (Int.tmod (wrap64 (a1 + 1)) (l0.length : Int)) < (l0.length : Int) then (some (wrap64 (((rd_T30 l0 (Int.tmod (wrap64 (a1 + 1)) (l0.length : Int))).f0) - ((rd_T30 l0 (Int.tmod a1 (l0.length : Int))).f0)),wrap64 (((rd_T30 l0 (Int.tmod (wrap64 (a1 + 1)) (l0.length : Int))).f1) - ((rd_T30 l0 (Int.tmod a1 (l0.length : Int))).f1)))) else (none)) else (none)) else (none)) else (none))
def convex_way.T1 : Bool × List (List Nat × List Nat):=(true,[([],[]),([],[]),([],[]),([2],[2]),([1,3],[1,3]),([0,4],[0,4]),([5],[5]),([],[]),([],[]),([8],[8]),([],[]),([10],[10]),([9,11],[9,11]),([7,12],[7,12]),([13],[13]),([],[]),([],[]),([15,6,0,1,2,3,4,5,6,15,16],[6,15]),([16,14,17,0,1,2,3,4,5,6,7,8,9,10,11,12,13,14,15,16,17],[14,16])])
def convex_way.B1 : List Nat:=[0,0,0,4,14,31,63,0,0,256,0,1024,3840,8064,16256,0,0,98431,262143]
theorem convex_way.tab1 : rtab .any (opsOf Try.f36 1) = convex_way.T1:=by kernel_rfl
theorem convex_way.bits1 : waitsOk convex_way.T1.2 convex_way.B1 = true:=by kernel_rfl
set_option maxHeartbeats 8000000 in
set_option maxRecDepth 100000 in
theorem convex_way.calls (A0 : Option Addr) (c0 : Nat) (l0 : List (S30)) (a1 : Int) (r1 : Int) (r2 : Int) (w : World) (hr0 : Kd.C k30 w A0 l0.length l0) (hc0 : l0.length ≤ c0) (h : convex_way.f l0 a1 = some (r1,r2)) :
  Calls Try.prog 36 #[.slice A0 l0.length c0,.int .i64 a1] w fun e w'=>e = .returned (.agg #[.int .i64 r1,.int .i64 r2])∧Below w.heap.size w w':=by
 have hu30:=Try.underlying30
 have HR0:=Aside0.mk hr0
 have HC0:=Aside0.mk hc0
 clear hr0 hc0
 have HB:=Aside0.mk (Below.refl w.heap.size w)
 have H : (if (l0.length : Int) = 0 then (none) else (if 0 ≤ (Int.tmod a1 (l0.length : Int)) then (if (Int.tmod a1 (l0.length : Int)) < (l0.length : Int) then (if 0 ≤ (Int.tmod (wrap64 (a1 + 1)) (l0.length : Int)) then (if (Int.tmod (wrap64 (a1 + 1)) (l0.length : Int)) < (l0.length : Int) then (some (wrap64 (((rd_T30 l0 (Int.tmod (wrap64 (a1 + 1)) (l0.length : Int))).f0) - ((rd_T30 l0 (Int.tmod a1 (l0.length : Int))).f0)),wrap64 (((rd_T30 l0 (Int.tmod (wrap64 (a1 + 1)) (l0.length : Int))).f1) - ((rd_T30 l0 (Int.tmod a1 (l0.length : Int))).f1)))) else (none)) else (none)) else (none)) else (none))) = some (r1,r2):=h
 clear h
 by_cases c3 : (l0.length : Int) = 0
 ·
  rw [if_pos c3] at H
  exact absurd H (by simp)
 rw [if_neg c3] at H
 have c3b0 : ((l0.length : Int) == 0) = false:=beq_eq_false_iff_ne.mpr c3
 have c3b1 : ((l0.length : Int) != 0) = true:=bne_iff_ne.mpr c3
 have c3b2 : ¬ (l0 = []):=fun h_=>c3 (by rw [h_];rfl)
 obtain ⟨ji4,hji4⟩ : ∃ j_ : Int,(Int.tmod a1 (l0.length : Int)) = j_:=⟨_,rfl⟩
 replace H : (if 0 ≤ (ji4) then (if (ji4) < (l0.length : Int) then (if 0 ≤ (Int.tmod (wrap64 (a1 + 1)) (l0.length : Int)) then (if (Int.tmod (wrap64 (a1 + 1)) (l0.length : Int)) < (l0.length : Int) then (some (wrap64 (((rd_T30 l0 (Int.tmod (wrap64 (a1 + 1)) (l0.length : Int))).f0) - ((rd_T30 l0 (ji4)).f0)),wrap64 (((rd_T30 l0 (Int.tmod (wrap64 (a1 + 1)) (l0.length : Int))).f1) - ((rd_T30 l0 (ji4)).f1)))) else (none)) else (none)) else (none)) else (none)) = some (r1,r2):=by first|(rw [hji4] at H;exact H)|(simp only [hji4] at H ⊢;exact H)
 by_cases c5 : 0 ≤ (ji4)
 ·
  rw [if_pos c5] at H
  have c5b0 : decide (0 ≤ (ji4)) = true:=decide_eq_true c5
  clear c5
  by_cases c6 : (ji4) < (l0.length : Int)
  ·
   rw [if_pos c6] at H
   have c6b0 : decide ((ji4) < (l0.length : Int)) = true:=decide_eq_true c6
   clear c6
   obtain ⟨ji7,hji7⟩ : ∃ j_ : Int,(Int.tmod (wrap64 (a1 + 1)) (l0.length : Int)) = j_:=⟨_,rfl⟩
   replace H : (if 0 ≤ (ji7) then (if (ji7) < (l0.length : Int) then (some (wrap64 (((rd_T30 l0 (ji7)).f0) - ((rd_T30 l0 (ji4)).f0)),wrap64 (((rd_T30 l0 (ji7)).f1) - ((rd_T30 l0 (ji4)).f1)))) else (none)) else (none)) = some (r1,r2):=by first|(rw [hji7] at H;exact H)|(simp only [hji7] at H ⊢;exact H)
   by_cases c8 : 0 ≤ (ji7)
   ·
    rw [if_pos c8] at H
    have c8b0 : decide (0 ≤ (ji7)) = true:=decide_eq_true c8
    clear c8
    by_cases c9 : (ji7) < (l0.length : Int)
    ·
     rw [if_pos c9] at H
     have c9b0 : decide ((ji7) < (l0.length : Int)) = true:=decide_eq_true c9
     clear c9
     simp only [Option.some.injEq,Prod.mk.injEq] at H
     obtain ⟨rfl,rfl⟩:=H
     go_enter Try.func36,Try.ntmps36
     try go_wp2_with (first|((with_reducible refine gate_dst (N:=4) rfl ?_);refine box_event ?hg (N:=4) ?hd (cs:=#[.int .i64 0,.int .i64 0]) (t:=30) ?hr ?_;(case hd=>rfl);(case hg=>rfl);(case hr=>first|(go_simp;done)|(go_simp;rfl));intro gb175 hg w10 hbox hb;have n0_:=Aside0.mk (below_step (by repeat (first|(with_reducible first|exact HB.out|apply ba_|apply bn_|apply bd_)|exact HB.out)) hb);have n1_:=Aside0.mk (hbox);have n2_:=Aside0.mk ((by rw [hg];exact (below_size (by repeat (first|(with_reducible first|exact HB.out|apply ba_|apply bn_|apply bd_)|exact HB.out))) : w.heap.size ≤ gb175));have n3_:=Aside0.mk ((by rw [hg];exact (below_size (by repeat (first|(with_reducible first|exact HB.out|apply ba_|apply bn_|apply bd_)|exact HB.out))) : w.heap.size ≤ gb175));clear HB;have HB:=n0_;have BK175:=n1_;have GW175:=n2_;have GE175:=n3_;clear n0_ n1_ n2_ n3_;clear hb hbox hg))
     have n0_:=Aside0.mk (kd_ BK175.out)
     have n1_:=Aside0.mk (bd_ HB.out)
     clear BK175
     clear HB
     have BK175:=n0_
     have HB:=n1_
     clear n0_ n1_
     have p176 : 0 ≤ ((ji4) : Int):=of_decide_eq_true (by first|(with_reducible assumption)|assumption)
     have q176 : (ji4) < (l0.length : Int):=of_decide_eq_true (by first|(with_reducible assumption)|assumption)
     obtain ⟨ad176,e176,hx176_0,hx176_1⟩:=at_T30 HR0.out (ji4) p176 q176
     have hw176_1:=hx176_1
     have hw176_0:=hx176_0
     cases e176
     replace hx176_0:=(HB.out.cell (bl_ w _ hx176_0)).trans hx176_0
     replace hx176_1:=(HB.out.cell (bl_ w _ hx176_1)).trans hx176_1
     replace p176:=eq_true p176
     replace q176:=eq_true q176
     have p177 : 0 ≤ ((ji7) : Int):=of_decide_eq_true (by first|(with_reducible assumption)|assumption)
     have q177 : (ji7) < (l0.length : Int):=of_decide_eq_true (by first|(with_reducible assumption)|assumption)
     obtain ⟨ad177,e177,hx177_0,hx177_1⟩:=at_T30 HR0.out (ji7) p177 q177
     have hw177_1:=hx177_1
     have hw177_0:=hx177_0
     obtain rfl : ad176 = ad177:=(by injection e177)
     replace hx177_0:=(HB.out.cell (bl_ w _ hx177_0)).trans hx177_0
     replace hx177_1:=(HB.out.cell (bl_ w _ hx177_1)).trans hx177_1
     replace p177:=eq_true p177
     replace q177:=eq_true q177
     refine start_ (n:=19) (S:=fun w'=>w'.cell? (ad176.add (((ji4)).toNat * 2)) = some (.int .i64 ((rd_T30 l0 (ji4)).f0))∧w'.cell? ⟨(ad176.add (((ji4)).toNat * 2)).block,(ad176.add (((ji4)).toNat * 2)).off + 1,none⟩ = some (.int .i64 ((rd_T30 l0 (ji4)).f1))∧w'.cell? (ad176.add (((ji7)).toNat * 2)) = some (.int .i64 ((rd_T30 l0 (ji7)).f0))∧w'.cell? ⟨(ad176.add (((ji7)).toNat * 2)).block,(ad176.add (((ji7)).toNat * 2)).off + 1,none⟩ = some (.int .i64 ((rd_T30 l0 (ji7)).f1))) (ds:=[]) #[false,false,false,false,false,false,false,false,false,false,false,false,false,false,false,false,false,false,false] (by kernel_rfl) rfl rfl ⟨((HB.out.cell (bl_ w _ hw176_0)).trans hw176_0),((HB.out.cell (bl_ w _ hw176_1)).trans hw176_1),((HB.out.cell (bl_ w _ hw177_0)).trans hw177_0),((HB.out.cell (bl_ w _ hw177_1)).trans hw177_1)⟩ (fun hHeld=>?_);refine with_tabW convex_way.tab1 convex_way.bits1 (fun HT_ HW_=>?_)
     generalize w10.drew = w11 at BK175 HB hx176_0 hx176_1 hx177_0 hx177_1 hHeld ⊢
     refine pure_ (i:=0) (N:=some 7) (v:=?_) (a':=?_) #[true,false,false,false,false,false,false,false,false,false,false,false,false,false,false,false,false,false,false] rfl rfl (any_of HT_.out (by kernel_rfl)) (fun _ _ _ h=>h) (Or.inl ⟨by rfl,?_⟩) ?_ ?_
     rotate_left
     ·
      intro w'
      go_simp
      with_reducible rfl
     rotate_left
     ·
      simp only [Act.put,la_,l0_,l1_,i64_w,i32_w]
      rfl
     refine pure_ (i:=1) (N:=some 8) (v:=?_) (a':=?_) #[true,true,false,false,false,false,false,false,false,false,false,false,false,false,false,false,false,false,false] rfl rfl (any_of HT_.out (by kernel_rfl)) (fun _ _ _ h=>h) (Or.inl ⟨by rfl,?_⟩) ?_ ?_
     rotate_left
     ·
      intro w'
      go_simp
      with_reducible rfl
     rotate_left
     ·
      simp only [Act.put,la_,l0_,l1_,i64_w,i32_w]
      rfl
     refine pure_ (i:=2) (N:=some 9) (v:=?_) (a':=?_) #[true,true,true,false,false,false,false,false,false,false,false,false,false,false,false,false,false,false,false] rfl rfl (any_of HT_.out (by kernel_rfl)) (fun _ _ _ h=>h) (Or.inl ⟨by rfl,?_⟩) ?_ ?_
     rotate_left
     ·
      intro w'
      go_simp
      with_reducible rfl
     rotate_left
     ·
      simp only [Act.put,la_,l0_,l1_,i64_w,i32_w]
      rfl
     refine pure_ (i:=3) (N:=some 10) (v:=?_) (a':=?_) #[true,true,true,true,false,false,false,false,false,false,false,false,false,false,false,false,false,false,false] rfl rfl (any_of HT_.out (by kernel_rfl)) (fun _ _ _ h=>h) (Or.inl ⟨by rfl,?_⟩) ?_ ?_
     rotate_left
     ·
      intro w'
      go_simp
      with_reducible rfl
     rotate_left
     ·
      simp only [Act.put,la_,l0_,l1_,i64_w,i32_w]
      rfl
     refine pure_ (i:=4) (N:=some 11) (v:=?_) (a':=?_) #[true,true,true,true,true,false,false,false,false,false,false,false,false,false,false,false,false,false,false] rfl rfl (any_of HT_.out (by kernel_rfl)) (fun _ _ _ h=>h) (Or.inl ⟨by rfl,?_⟩) ?_ ?_
     rotate_left
     ·
      intro w'
      go_simp
      with_reducible rfl
     rotate_left
     ·
      simp only [Act.put,la_,l0_,l1_,i64_w,i32_w]
      rfl
     refine pure_ (i:=5) (N:=some 12) (v:=?_) (a':=?_) #[true,true,true,true,true,true,false,false,false,false,false,false,false,false,false,false,false,false,false] rfl rfl (any_of HT_.out (by kernel_rfl)) (fun _ _ _ h=>h) (Or.inl ⟨by rfl,?_⟩) ?_ ?_
     rotate_left
     ·
      intro w'
      go_simp
      with_reducible rfl
     rotate_left
     ·
      simp only [Act.put,la_,l0_,l1_,i64_w,i32_w]
      rfl
     refine pure_ (i:=7) (N:=some 14) (v:=?_) (a':=?_) #[true,true,true,true,true,true,false,true,false,false,false,false,false,false,false,false,false,false,false] rfl rfl (any_of HT_.out (by kernel_rfl)) (fun _ _ _ h=>h) (Or.inl ⟨by rfl,?_⟩) ?_ ?_
     rotate_left
     ·
      intro w'
      go_simp
      with_reducible rfl
     rotate_left
     ·
      simp only [Act.put,la_,l0_,l1_,i64_w,i32_w]
      rfl
     refine pure_ (i:=8) (N:=some 15) (v:=?_) (a':=?_) #[true,true,true,true,true,true,false,true,true,false,false,false,false,false,false,false,false,false,false] rfl rfl (any_of HT_.out (by kernel_rfl)) (fun _ _ _ h=>h) (Or.inl ⟨by rfl,?_⟩) ?_ ?_
     rotate_left
     ·
      intro w'
      go_simp
      with_reducible rfl
     rotate_left
     ·
      simp only [Act.put,la_,l0_,l1_,i64_w,i32_w]
      rfl
     refine pure_ (i:=9) (N:=some 16) (v:=?_) (a':=?_) #[true,true,true,true,true,true,false,true,true,true,false,false,false,false,false,false,false,false,false] rfl rfl (any_of HT_.out (by kernel_rfl)) (fun _ _ _ h=>h) (Or.inl ⟨by rfl,?_⟩) ?_ ?_
     rotate_left
     ·
      intro w'
      go_simp
      with_reducible rfl
     rotate_left
     ·
      simp only [Act.put,la_,l0_,l1_,i64_w,i32_w]
      rfl
     refine pure_ (i:=10) (N:=some 17) (v:=?_) (a':=?_) #[true,true,true,true,true,true,false,true,true,true,true,false,false,false,false,false,false,false,false] rfl rfl (any_of HT_.out (by kernel_rfl)) (fun _ _ _ h=>h) (Or.inl ⟨by rfl,?_⟩) ?_ ?_
     rotate_left
     ·
      intro w'
      go_simp
      with_reducible rfl
     rotate_left
     ·
      simp only [Act.put,la_,l0_,l1_,i64_w,i32_w]
      rfl
     refine pure_ (i:=11) (N:=some 18) (v:=?_) (a':=?_) #[true,true,true,true,true,true,false,true,true,true,true,true,false,false,false,false,false,false,false] rfl rfl (any_of HT_.out (by kernel_rfl)) (fun _ _ _ h=>h) (Or.inl ⟨by rfl,?_⟩) ?_ ?_
     rotate_left
     ·
      intro w'
      go_simp
      with_reducible rfl
     rotate_left
     ·
      simp only [Act.put,la_,l0_,l1_,i64_w,i32_w]
      rfl
     refine pure_ (i:=12) (N:=some 19) (v:=?_) (a':=?_) #[true,true,true,true,true,true,false,true,true,true,true,true,true,false,false,false,false,false,false] rfl rfl (any_of HT_.out (by kernel_rfl)) (fun _ _ _ h=>h) (Or.inl ⟨by rfl,?_⟩) ?_ ?_
     rotate_left
     ·
      intro w'
      go_simp
      with_reducible rfl
     rotate_left
     ·
      simp only [Act.put,la_,l0_,l1_,i64_w,i32_w]
      rfl
     refine pure_ (i:=13) (N:=some 20) (v:=?_) (a':=?_) #[true,true,true,true,true,true,false,true,true,true,true,true,true,true,false,false,false,false,false] rfl rfl (any_of HT_.out (by kernel_rfl)) (fun _ _ _ h=>h) (Or.inl ⟨by rfl,?_⟩) ?_ ?_
     rotate_left
     ·
      intro w'
      go_simp
      with_reducible rfl
     rotate_left
     ·
      simp only [Act.put,la_,l0_,l1_,i64_w,i32_w]
      rfl
     refine take_ (i:=6) (N:=some 13) (v:=?_) (a':=?_) #[true,true,true,true,true,true,true,true,true,true,true,true,true,true,false,false,false,false,false] rfl rfl (take_ofW HT_.out HW_.out (by kernel_rfl)) (fun _ _ _ h=>h) (Or.inl ⟨by rfl,?_⟩) hHeld ?_ ?_
     rotate_left
     ·
      rintro w' ⟨s0,s1,s2,s3⟩
      go_simp
      with_reducible rfl
     rotate_left
     ·
      simp only [Act.put,la_,l0_,l1_,i64_w,i32_w]
      rfl
     refine take_ (i:=14) (N:=some 21) (v:=?_) (a':=?_) #[true,true,true,true,true,true,true,true,true,true,true,true,true,true,true,false,false,false,false] rfl rfl (take_ofW HT_.out HW_.out (by kernel_rfl)) (fun _ _ _ h=>h) (Or.inl ⟨by rfl,?_⟩) hHeld ?_ ?_
     rotate_left
     ·
      rintro w' ⟨s0,s1,s2,s3⟩
      go_simp
      with_reducible rfl
     rotate_left
     ·
      simp only [Act.put,la_,l0_,l1_,i64_w,i32_w]
      rfl
     refine join_ (σ:=Nat × Nat) 2 #[true,true,true,true,true,true,true,true,true,true,true,true,true,true,true,true,true,false,false] (fun s_=>[(5,.pointer (some ⟨s_.1,0,none⟩)),(6,.pointer (some ⟨s_.2,0,none⟩))]) (fun s_ w'=>(w'.cell? (ad176.add (((ji4)).toNat * 2)) = some (.int .i64 ((rd_T30 l0 (ji4)).f0))∧w'.cell? ⟨(ad176.add (((ji4)).toNat * 2)).block,(ad176.add (((ji4)).toNat * 2)).off + 1,none⟩ = some (.int .i64 ((rd_T30 l0 (ji4)).f1))∧w'.cell? (ad176.add (((ji7)).toNat * 2)) = some (.int .i64 ((rd_T30 l0 (ji7)).f0))∧w'.cell? ⟨(ad176.add (((ji7)).toNat * 2)).block,(ad176.add (((ji7)).toNat * 2)).off + 1,none⟩ = some (.int .i64 ((rd_T30 l0 (ji7)).f1)))∧(w'.heap[gb175]? = some (.cells #[.int .i64 0,.int .i64 0] 30 (0,0)))∧(w'.heap[s_.1]? = some (.cells #[.int .i64 0,.int .i64 0] 30 (0,0)))∧(w'.heap[s_.2]? = some (.cells #[.int .i64 0,.int .i64 0] 30 (0,0)))∧(w.heap.size ≤ s_.1)∧(w.heap.size ≤ s_.1)∧(gb175 ≠ s_.1)∧(s_.1 ≠ gb175)∧(s_.2 ≠ s_.1)∧(s_.1 ≠ s_.2)∧(w.heap.size ≤ s_.2)∧(w.heap.size ≤ s_.2)∧(gb175 ≠ s_.2)∧(s_.2 ≠ gb175)∧(Below w.heap.size w w')) ?_ ?_
     rotate_left
     ·
      intro hCont
      refine two_ (i:=15) (j:=16) (Ni:=some 5) (Nj:=some 6) #[true,true,true,true,true,true,true,true,true,true,true,true,true,true,true,true,false,false,false] #[true,true,true,true,true,true,true,true,true,true,true,true,true,true,true,false,true,false,false] rfl rfl rfl rfl (two_of HT_.out (by kernel_rfl)) (by decide) (by decide) (fun K hK=>?_) (fun K hK=>?_)
      ·
       skip
       refine box_step ?hg (N:=5) ?hd (cs:=#[.int .i64 0,.int .i64 0]) (t:=30) ?hr ?_;(case hd=>rfl);(case hg=>rfl);(case hr=>first|(go_simp;done)|(go_simp;rfl))
       intro gb178 hg w12 hbox hb
       have n0_:=Aside0.mk (blk_below (g:=gb175) (o:=.cells #[.int .i64 0,.int .i64 0] 30 (0,0)) (by (with_reducible repeat (first|refine kn_ ?_ _|refine kd_ ?_|refine ka_ ?_ _));exact BK175.out) hb)
       have n1_:=Aside0.mk (below_step (by repeat (first|(with_reducible first|exact HB.out|apply ba_|apply bn_|apply bd_|refine below_set ?_ GE175.out)|exact HB.out)) hb)
       have n2_:=Aside0.mk (hbox)
       have n3_:=Aside0.mk ((by rw [hg];exact (below_size (by repeat (first|(with_reducible first|exact HB.out|apply ba_|apply bn_|apply bd_|refine below_set ?_ GE175.out)|exact HB.out))) : w.heap.size ≤ gb178))
       have n4_:=Aside0.mk ((by rw [hg];exact (below_size (by repeat (first|(with_reducible first|exact HB.out|apply ba_|apply bn_|apply bd_|refine below_set ?_ GE175.out)|exact HB.out))) : w.heap.size ≤ gb178))
       have n5_:=Aside0.mk ((by rw [hg];exact Nat.ne_of_lt (blk_lt (g:=gb175) (o:=.cells #[.int .i64 0,.int .i64 0] 30 (0,0)) (by (with_reducible repeat (first|refine kn_ ?_ _|refine kd_ ?_|refine ka_ ?_ _));exact BK175.out)) : gb175 ≠ gb178))
       have n6_:=Aside0.mk ((by rw [hg];exact Nat.ne_of_gt (blk_lt (g:=gb175) (o:=.cells #[.int .i64 0,.int .i64 0] 30 (0,0)) (by (with_reducible repeat (first|refine kn_ ?_ _|refine kd_ ?_|refine ka_ ?_ _));exact BK175.out)) : gb178 ≠ gb175))
       clear BK175
       clear HB
       have BK175:=n0_
       have HB:=n1_
       have BK178:=n2_
       have GW178:=n3_
       have GE178:=n4_
       have NB175_178:=n5_
       have NB178_175:=n6_
       clear n0_ n1_ n2_ n3_ n4_ n5_ n6_
       clear hb hbox hg
       refine hK.out _ _ ⟨((HB.out.cell (bl_ w _ hw176_0)).trans hw176_0),((HB.out.cell (bl_ w _ hw176_1)).trans hw176_1),((HB.out.cell (bl_ w _ hw177_0)).trans hw177_0),((HB.out.cell (bl_ w _ hw177_1)).trans hw177_1)⟩ (fun hHeld=>?_)
       clear hK K
       refine norm_ (a':=?_) ?_ ?_
       rotate_left
       ·
        show Act.put _ (some 5) _ = _
        simp only [Act.put,la_,l0_,l1_,i64_w,i32_w]
        rfl
       refine one_ (i:=16) (N:=some 6) #[true,true,true,true,true,true,true,true,true,true,true,true,true,true,true,true,true,false,false] rfl rfl (one_of HT_.out (by kernel_rfl)) (by decide) (fun K hK=>?_)
       refine box_step ?hg (N:=6) ?hd (cs:=#[.int .i64 0,.int .i64 0]) (t:=30) ?hr ?_;(case hd=>rfl);(case hg=>rfl);(case hr=>first|(go_simp;done)|(go_simp;rfl))
       intro gb179 hg w13 hbox hb
       have n0_:=Aside0.mk (blk_below (g:=gb175) (o:=.cells #[.int .i64 0,.int .i64 0] 30 (0,0)) (by (with_reducible repeat (first|refine kn_ ?_ _|refine kd_ ?_|refine ka_ ?_ _));exact BK175.out) hb)
       have n1_:=Aside0.mk (blk_below (g:=gb178) (o:=.cells #[.int .i64 0,.int .i64 0] 30 (0,0)) (by (with_reducible repeat (first|refine kn_ ?_ _|refine kd_ ?_|refine ka_ ?_ _));exact BK178.out) hb)
       have n2_:=Aside0.mk (below_step (by repeat (first|(with_reducible first|exact HB.out|apply ba_|apply bn_|apply bd_|refine below_set ?_ GE175.out|refine below_set ?_ GE178.out)|exact HB.out)) hb)
       have n3_:=Aside0.mk (hbox)
       have n4_:=Aside0.mk ((by rw [hg];exact (below_size (by repeat (first|(with_reducible first|exact HB.out|apply ba_|apply bn_|apply bd_|refine below_set ?_ GE175.out|refine below_set ?_ GE178.out)|exact HB.out))) : w.heap.size ≤ gb179))
       have n5_:=Aside0.mk ((by rw [hg];exact (below_size (by repeat (first|(with_reducible first|exact HB.out|apply ba_|apply bn_|apply bd_|refine below_set ?_ GE175.out|refine below_set ?_ GE178.out)|exact HB.out))) : w.heap.size ≤ gb179))
       have n6_:=Aside0.mk ((by rw [hg];exact Nat.ne_of_lt (blk_lt (g:=gb175) (o:=.cells #[.int .i64 0,.int .i64 0] 30 (0,0)) (by (with_reducible repeat (first|refine kn_ ?_ _|refine kd_ ?_|refine ka_ ?_ _));exact BK175.out)) : gb175 ≠ gb179))
       have n7_:=Aside0.mk ((by rw [hg];exact Nat.ne_of_gt (blk_lt (g:=gb175) (o:=.cells #[.int .i64 0,.int .i64 0] 30 (0,0)) (by (with_reducible repeat (first|refine kn_ ?_ _|refine kd_ ?_|refine ka_ ?_ _));exact BK175.out)) : gb179 ≠ gb175))
       have n8_:=Aside0.mk ((by rw [hg];exact Nat.ne_of_lt (blk_lt (g:=gb178) (o:=.cells #[.int .i64 0,.int .i64 0] 30 (0,0)) (by (with_reducible repeat (first|refine kn_ ?_ _|refine kd_ ?_|refine ka_ ?_ _));exact BK178.out)) : gb178 ≠ gb179))
       have n9_:=Aside0.mk ((by rw [hg];exact Nat.ne_of_gt (blk_lt (g:=gb178) (o:=.cells #[.int .i64 0,.int .i64 0] 30 (0,0)) (by (with_reducible repeat (first|refine kn_ ?_ _|refine kd_ ?_|refine ka_ ?_ _));exact BK178.out)) : gb179 ≠ gb178))
       clear BK175
       clear BK178
       clear HB
       have BK175:=n0_
       have BK178:=n1_
       have HB:=n2_
       have BK179:=n3_
       have GW179:=n4_
       have GE179:=n5_
       have NB175_179:=n6_
       have NB179_175:=n7_
       have NB178_179:=n8_
       have NB179_178:=n9_
       clear n0_ n1_ n2_ n3_ n4_ n5_ n6_ n7_ n8_ n9_
       clear hb hbox hg
       refine hK.out _ _ ⟨((HB.out.cell (bl_ w _ hw176_0)).trans hw176_0),((HB.out.cell (bl_ w _ hw176_1)).trans hw176_1),((HB.out.cell (bl_ w _ hw177_0)).trans hw177_0),((HB.out.cell (bl_ w _ hw177_1)).trans hw177_1)⟩ (fun hHeld=>?_)
       clear hK K
       refine norm_ (a':=?_) ?_ ?_
       rotate_left
       ·
        show Act.put _ (some 6) _ = _
        simp only [Act.put,la_,l0_,l1_,i64_w,i32_w]
        rfl
       exact norm_ (by simp only [putAll,Act.put,la_,l0_,l1_]) (hCont (gb178,gb179) _ ⟨hHeld,(by (with_reducible repeat (first|refine kn_ ?_ _|refine kd_ ?_|refine ka_ ?_ _));exact BK175.out),(by (with_reducible repeat (first|refine kn_ ?_ _|refine kd_ ?_|refine ka_ ?_ _));exact BK178.out),(by (with_reducible repeat (first|refine kn_ ?_ _|refine kd_ ?_|refine ka_ ?_ _));exact BK179.out),GW178.out,GE178.out,NB175_178.out,NB178_175.out,NB179_178.out,NB178_179.out,GW179.out,GE179.out,NB175_179.out,NB179_175.out,(by repeat (first|(with_reducible first|exact HB.out|apply ba_|apply bn_|apply bd_|refine below_set ?_ GE175.out|refine below_set ?_ GE178.out|refine below_set ?_ GE179.out)|exact HB.out))⟩)
      skip
      refine box_step ?hg (N:=6) ?hd (cs:=#[.int .i64 0,.int .i64 0]) (t:=30) ?hr ?_;(case hd=>rfl);(case hg=>rfl);(case hr=>first|(go_simp;done)|(go_simp;rfl))
      intro gb179 hg w12 hbox hb
      have n0_:=Aside0.mk (blk_below (g:=gb175) (o:=.cells #[.int .i64 0,.int .i64 0] 30 (0,0)) (by (with_reducible repeat (first|refine kn_ ?_ _|refine kd_ ?_|refine ka_ ?_ _));exact BK175.out) hb)
      have n1_:=Aside0.mk (below_step (by repeat (first|(with_reducible first|exact HB.out|apply ba_|apply bn_|apply bd_|refine below_set ?_ GE175.out)|exact HB.out)) hb)
      have n2_:=Aside0.mk (hbox)
      have n3_:=Aside0.mk ((by rw [hg];exact (below_size (by repeat (first|(with_reducible first|exact HB.out|apply ba_|apply bn_|apply bd_|refine below_set ?_ GE175.out)|exact HB.out))) : w.heap.size ≤ gb179))
      have n4_:=Aside0.mk ((by rw [hg];exact (below_size (by repeat (first|(with_reducible first|exact HB.out|apply ba_|apply bn_|apply bd_|refine below_set ?_ GE175.out)|exact HB.out))) : w.heap.size ≤ gb179))
      have n5_:=Aside0.mk ((by rw [hg];exact Nat.ne_of_lt (blk_lt (g:=gb175) (o:=.cells #[.int .i64 0,.int .i64 0] 30 (0,0)) (by (with_reducible repeat (first|refine kn_ ?_ _|refine kd_ ?_|refine ka_ ?_ _));exact BK175.out)) : gb175 ≠ gb179))
      have n6_:=Aside0.mk ((by rw [hg];exact Nat.ne_of_gt (blk_lt (g:=gb175) (o:=.cells #[.int .i64 0,.int .i64 0] 30 (0,0)) (by (with_reducible repeat (first|refine kn_ ?_ _|refine kd_ ?_|refine ka_ ?_ _));exact BK175.out)) : gb179 ≠ gb175))
      clear BK175
      clear HB
      have BK175:=n0_
      have HB:=n1_
      have BK179:=n2_
      have GW179:=n3_
      have GE179:=n4_
      have NB175_179:=n5_
      have NB179_175:=n6_
      clear n0_ n1_ n2_ n3_ n4_ n5_ n6_
      clear hb hbox hg
      refine hK.out _ _ ⟨((HB.out.cell (bl_ w _ hw176_0)).trans hw176_0),((HB.out.cell (bl_ w _ hw176_1)).trans hw176_1),((HB.out.cell (bl_ w _ hw177_0)).trans hw177_0),((HB.out.cell (bl_ w _ hw177_1)).trans hw177_1)⟩ (fun hHeld=>?_)
      clear hK K
      refine norm_ (a':=?_) ?_ ?_
      rotate_left
      ·
       show Act.put _ (some 6) _ = _
       simp only [Act.put,la_,l0_,l1_,i64_w,i32_w]
       rfl
      refine one_ (i:=15) (N:=some 5) #[true,true,true,true,true,true,true,true,true,true,true,true,true,true,true,true,true,false,false] rfl rfl (one_of HT_.out (by kernel_rfl)) (by decide) (fun K hK=>?_)
      refine box_step ?hg (N:=5) ?hd (cs:=#[.int .i64 0,.int .i64 0]) (t:=30) ?hr ?_;(case hd=>rfl);(case hg=>rfl);(case hr=>first|(go_simp;done)|(go_simp;rfl))
      intro gb178 hg w13 hbox hb
      have n0_:=Aside0.mk (blk_below (g:=gb175) (o:=.cells #[.int .i64 0,.int .i64 0] 30 (0,0)) (by (with_reducible repeat (first|refine kn_ ?_ _|refine kd_ ?_|refine ka_ ?_ _));exact BK175.out) hb)
      have n1_:=Aside0.mk (blk_below (g:=gb179) (o:=.cells #[.int .i64 0,.int .i64 0] 30 (0,0)) (by (with_reducible repeat (first|refine kn_ ?_ _|refine kd_ ?_|refine ka_ ?_ _));exact BK179.out) hb)
      have n2_:=Aside0.mk (below_step (by repeat (first|(with_reducible first|exact HB.out|apply ba_|apply bn_|apply bd_|refine below_set ?_ GE175.out|refine below_set ?_ GE179.out)|exact HB.out)) hb)
      have n3_:=Aside0.mk (hbox)
      have n4_:=Aside0.mk ((by rw [hg];exact (below_size (by repeat (first|(with_reducible first|exact HB.out|apply ba_|apply bn_|apply bd_|refine below_set ?_ GE175.out|refine below_set ?_ GE179.out)|exact HB.out))) : w.heap.size ≤ gb178))
      have n5_:=Aside0.mk ((by rw [hg];exact (below_size (by repeat (first|(with_reducible first|exact HB.out|apply ba_|apply bn_|apply bd_|refine below_set ?_ GE175.out|refine below_set ?_ GE179.out)|exact HB.out))) : w.heap.size ≤ gb178))
      have n6_:=Aside0.mk ((by rw [hg];exact Nat.ne_of_lt (blk_lt (g:=gb175) (o:=.cells #[.int .i64 0,.int .i64 0] 30 (0,0)) (by (with_reducible repeat (first|refine kn_ ?_ _|refine kd_ ?_|refine ka_ ?_ _));exact BK175.out)) : gb175 ≠ gb178))
      have n7_:=Aside0.mk ((by rw [hg];exact Nat.ne_of_gt (blk_lt (g:=gb175) (o:=.cells #[.int .i64 0,.int .i64 0] 30 (0,0)) (by (with_reducible repeat (first|refine kn_ ?_ _|refine kd_ ?_|refine ka_ ?_ _));exact BK175.out)) : gb178 ≠ gb175))
      have n8_:=Aside0.mk ((by rw [hg];exact Nat.ne_of_lt (blk_lt (g:=gb179) (o:=.cells #[.int .i64 0,.int .i64 0] 30 (0,0)) (by (with_reducible repeat (first|refine kn_ ?_ _|refine kd_ ?_|refine ka_ ?_ _));exact BK179.out)) : gb179 ≠ gb178))
      have n9_:=Aside0.mk ((by rw [hg];exact Nat.ne_of_gt (blk_lt (g:=gb179) (o:=.cells #[.int .i64 0,.int .i64 0] 30 (0,0)) (by (with_reducible repeat (first|refine kn_ ?_ _|refine kd_ ?_|refine ka_ ?_ _));exact BK179.out)) : gb178 ≠ gb179))
      clear BK175
      clear BK179
      clear HB
      have BK175:=n0_
      have BK179:=n1_
      have HB:=n2_
      have BK178:=n3_
      have GW178:=n4_
      have GE178:=n5_
      have NB175_178:=n6_
      have NB178_175:=n7_
      have NB179_178:=n8_
      have NB178_179:=n9_
      clear n0_ n1_ n2_ n3_ n4_ n5_ n6_ n7_ n8_ n9_
      clear hb hbox hg
      refine hK.out _ _ ⟨((HB.out.cell (bl_ w _ hw176_0)).trans hw176_0),((HB.out.cell (bl_ w _ hw176_1)).trans hw176_1),((HB.out.cell (bl_ w _ hw177_0)).trans hw177_0),((HB.out.cell (bl_ w _ hw177_1)).trans hw177_1)⟩ (fun hHeld=>?_)
      clear hK K
      refine norm_ (a':=?_) ?_ ?_
      rotate_left
      ·
       show Act.put _ (some 5) _ = _
       simp only [Act.put,la_,l0_,l1_,i64_w,i32_w]
       rfl
      exact norm_ (by simp only [putAll,Act.put,la_,l0_,l1_]) (hCont (gb178,gb179) _ ⟨hHeld,(by (with_reducible repeat (first|refine kn_ ?_ _|refine kd_ ?_|refine ka_ ?_ _));exact BK175.out),(by (with_reducible repeat (first|refine kn_ ?_ _|refine kd_ ?_|refine ka_ ?_ _));exact BK178.out),(by (with_reducible repeat (first|refine kn_ ?_ _|refine kd_ ?_|refine ka_ ?_ _));exact BK179.out),GW178.out,GE178.out,NB175_178.out,NB178_175.out,NB179_178.out,NB178_179.out,GW179.out,GE179.out,NB175_179.out,NB179_175.out,(by repeat (first|(with_reducible first|exact HB.out|apply ba_|apply bn_|apply bd_|refine below_set ?_ GE175.out|refine below_set ?_ GE179.out|refine below_set ?_ GE178.out)|exact HB.out))⟩)
     rintro ⟨gb178,gb179⟩ w14 ⟨hS_,h0_,h1_,h2_,h3_,h4_,h5_,h6_,h7_,h8_,h9_,h10_,h11_,h12_,h13_⟩
     have n0_ : Aside0 (w14.heap[gb175]? = some (.cells #[.int .i64 0,.int .i64 0] 30 (0,0))):=⟨h0_⟩
     have n1_ : Aside0 (w14.heap[gb178]? = some (.cells #[.int .i64 0,.int .i64 0] 30 (0,0))):=⟨h1_⟩
     have n2_ : Aside0 (w14.heap[gb179]? = some (.cells #[.int .i64 0,.int .i64 0] 30 (0,0))):=⟨h2_⟩
     have n3_ : Aside0 (w.heap.size ≤ gb178):=⟨h3_⟩
     have n4_ : Aside0 (w.heap.size ≤ gb178):=⟨h4_⟩
     have n5_ : Aside0 (gb175 ≠ gb178):=⟨h5_⟩
     have n6_ : Aside0 (gb178 ≠ gb175):=⟨h6_⟩
     have n7_ : Aside0 (gb179 ≠ gb178):=⟨h7_⟩
     have n8_ : Aside0 (gb178 ≠ gb179):=⟨h8_⟩
     have n9_ : Aside0 (w.heap.size ≤ gb179):=⟨h9_⟩
     have n10_ : Aside0 (w.heap.size ≤ gb179):=⟨h10_⟩
     have n11_ : Aside0 (gb175 ≠ gb179):=⟨h11_⟩
     have n12_ : Aside0 (gb179 ≠ gb175):=⟨h12_⟩
     have n13_ : Aside0 (Below w.heap.size w w14):=⟨h13_⟩
     clear BK175
     clear HB
     clear h0_ h1_ h2_ h3_ h4_ h5_ h6_ h7_ h8_ h9_ h10_ h11_ h12_ h13_
     have BK175:=n0_
     have BK178:=n1_
     have BK179:=n2_
     have GW178:=n3_
     have GE178:=n4_
     have NB175_178:=n5_
     have NB178_175:=n6_
     have NB179_178:=n7_
     have NB178_179:=n8_
     have GW179:=n9_
     have GE179:=n10_
     have NB175_179:=n11_
     have NB179_175:=n12_
     have HB:=n13_
     clear n0_ n1_ n2_ n3_ n4_ n5_ n6_ n7_ n8_ n9_ n10_ n11_ n12_ n13_
     have hHeld : w14.cell? (ad176.add (((ji4)).toNat * 2)) = some (.int .i64 ((rd_T30 l0 (ji4)).f0))∧w14.cell? ⟨(ad176.add (((ji4)).toNat * 2)).block,(ad176.add (((ji4)).toNat * 2)).off + 1,none⟩ = some (.int .i64 ((rd_T30 l0 (ji4)).f1))∧w14.cell? (ad176.add (((ji7)).toNat * 2)) = some (.int .i64 ((rd_T30 l0 (ji7)).f0))∧w14.cell? ⟨(ad176.add (((ji7)).toNat * 2)).block,(ad176.add (((ji7)).toNat * 2)).off + 1,none⟩ = some (.int .i64 ((rd_T30 l0 (ji7)).f1)):=hS_
     refine norm_ (a':=?_) ?_ ?_
     rotate_left
     ·
      simp only [putAll,Act.put,la_,l0_,l1_]
      rfl
     refine one_ (i:=17) (N:=none) #[true,true,true,true,true,true,true,true,true,true,true,true,true,true,true,true,true,true,false] rfl rfl (one_of HT_.out (by kernel_rfl)) (by decide) (fun K hK=>?_)
     have hs15 : w14.cell? ⟨gb178,0,none⟩ = some (.int .i64 0):=(blk_cell BK178.out 0).trans rfl
     have hfs15:=blk_frozen BK178.out 0
     have hns15_0:=NB175_178.out
     have hns15_2:=NB179_178.out
     have hms15_0:=NB178_175.out
     have hms15_2:=NB178_179.out
     have hs16 : w14.cell? ⟨gb178,1,none⟩ = some (.int .i64 0):=(blk_cell BK178.out 1).trans rfl
     have hfs16:=blk_frozen BK178.out 1
     have hns16_0:=NB175_178.out
     have hns16_2:=NB179_178.out
     have hms16_0:=NB178_175.out
     have hms16_2:=NB178_179.out
     refine skip_ (w1:=?_) (by rfl) rfl ?_ ?_
     rotate_left
     ·
      go_simp
      rfl
     refine hK.out _ _ ⟨((cell_far (p:=⟨gb178,_,none⟩) (by first|exact Nat.ne_of_lt (Nat.lt_of_lt_of_le (by have:=bl_ _ _ hw176_0;first|rwa [add_block] at this|exact this) GW178.out)|(rw [add_block];exact Nat.ne_of_lt (Nat.lt_of_lt_of_le (by have:=bl_ _ _ hw176_0;first|rwa [add_block] at this|exact this) GW178.out))|(show (Addr.add _ _).block ≠ _;rw [add_block];exact Nat.ne_of_lt (Nat.lt_of_lt_of_le (by have:=bl_ _ _ hw176_0;first|rwa [add_block] at this|exact this) GW178.out))|(dsimp only;exact Nat.ne_of_lt (Nat.lt_of_lt_of_le (by have:=bl_ _ _ hw176_0;first|rwa [add_block] at this|exact this) GW178.out))) _).trans (((cell_far (p:=⟨gb178,_,none⟩) (by first|exact Nat.ne_of_lt (Nat.lt_of_lt_of_le (by have:=bl_ _ _ hw176_0;first|rwa [add_block] at this|exact this) GW178.out)|(rw [add_block];exact Nat.ne_of_lt (Nat.lt_of_lt_of_le (by have:=bl_ _ _ hw176_0;first|rwa [add_block] at this|exact this) GW178.out))|(show (Addr.add _ _).block ≠ _;rw [add_block];exact Nat.ne_of_lt (Nat.lt_of_lt_of_le (by have:=bl_ _ _ hw176_0;first|rwa [add_block] at this|exact this) GW178.out))|(dsimp only;exact Nat.ne_of_lt (Nat.lt_of_lt_of_le (by have:=bl_ _ _ hw176_0;first|rwa [add_block] at this|exact this) GW178.out))) _).trans (hHeld.1)))),((cell_far (p:=⟨gb178,_,none⟩) (by first|exact Nat.ne_of_lt (Nat.lt_of_lt_of_le (by have:=bl_ _ _ hw176_1;first|rwa [add_block] at this|exact this) GW178.out)|(rw [add_block];exact Nat.ne_of_lt (Nat.lt_of_lt_of_le (by have:=bl_ _ _ hw176_1;first|rwa [add_block] at this|exact this) GW178.out))|(show (Addr.add _ _).block ≠ _;rw [add_block];exact Nat.ne_of_lt (Nat.lt_of_lt_of_le (by have:=bl_ _ _ hw176_1;first|rwa [add_block] at this|exact this) GW178.out))|(dsimp only;exact Nat.ne_of_lt (Nat.lt_of_lt_of_le (by have:=bl_ _ _ hw176_1;first|rwa [add_block] at this|exact this) GW178.out))) _).trans (((cell_far (p:=⟨gb178,_,none⟩) (by first|exact Nat.ne_of_lt (Nat.lt_of_lt_of_le (by have:=bl_ _ _ hw176_1;first|rwa [add_block] at this|exact this) GW178.out)|(rw [add_block];exact Nat.ne_of_lt (Nat.lt_of_lt_of_le (by have:=bl_ _ _ hw176_1;first|rwa [add_block] at this|exact this) GW178.out))|(show (Addr.add _ _).block ≠ _;rw [add_block];exact Nat.ne_of_lt (Nat.lt_of_lt_of_le (by have:=bl_ _ _ hw176_1;first|rwa [add_block] at this|exact this) GW178.out))|(dsimp only;exact Nat.ne_of_lt (Nat.lt_of_lt_of_le (by have:=bl_ _ _ hw176_1;first|rwa [add_block] at this|exact this) GW178.out))) _).trans (hHeld.2.1)))),((cell_far (p:=⟨gb178,_,none⟩) (by first|exact Nat.ne_of_lt (Nat.lt_of_lt_of_le (by have:=bl_ _ _ hw177_0;first|rwa [add_block] at this|exact this) GW178.out)|(rw [add_block];exact Nat.ne_of_lt (Nat.lt_of_lt_of_le (by have:=bl_ _ _ hw177_0;first|rwa [add_block] at this|exact this) GW178.out))|(show (Addr.add _ _).block ≠ _;rw [add_block];exact Nat.ne_of_lt (Nat.lt_of_lt_of_le (by have:=bl_ _ _ hw177_0;first|rwa [add_block] at this|exact this) GW178.out))|(dsimp only;exact Nat.ne_of_lt (Nat.lt_of_lt_of_le (by have:=bl_ _ _ hw177_0;first|rwa [add_block] at this|exact this) GW178.out))) _).trans (((cell_far (p:=⟨gb178,_,none⟩) (by first|exact Nat.ne_of_lt (Nat.lt_of_lt_of_le (by have:=bl_ _ _ hw177_0;first|rwa [add_block] at this|exact this) GW178.out)|(rw [add_block];exact Nat.ne_of_lt (Nat.lt_of_lt_of_le (by have:=bl_ _ _ hw177_0;first|rwa [add_block] at this|exact this) GW178.out))|(show (Addr.add _ _).block ≠ _;rw [add_block];exact Nat.ne_of_lt (Nat.lt_of_lt_of_le (by have:=bl_ _ _ hw177_0;first|rwa [add_block] at this|exact this) GW178.out))|(dsimp only;exact Nat.ne_of_lt (Nat.lt_of_lt_of_le (by have:=bl_ _ _ hw177_0;first|rwa [add_block] at this|exact this) GW178.out))) _).trans (hHeld.2.2.1)))),((cell_far (p:=⟨gb178,_,none⟩) (by first|exact Nat.ne_of_lt (Nat.lt_of_lt_of_le (by have:=bl_ _ _ hw177_1;first|rwa [add_block] at this|exact this) GW178.out)|(rw [add_block];exact Nat.ne_of_lt (Nat.lt_of_lt_of_le (by have:=bl_ _ _ hw177_1;first|rwa [add_block] at this|exact this) GW178.out))|(show (Addr.add _ _).block ≠ _;rw [add_block];exact Nat.ne_of_lt (Nat.lt_of_lt_of_le (by have:=bl_ _ _ hw177_1;first|rwa [add_block] at this|exact this) GW178.out))|(dsimp only;exact Nat.ne_of_lt (Nat.lt_of_lt_of_le (by have:=bl_ _ _ hw177_1;first|rwa [add_block] at this|exact this) GW178.out))) _).trans (((cell_far (p:=⟨gb178,_,none⟩) (by first|exact Nat.ne_of_lt (Nat.lt_of_lt_of_le (by have:=bl_ _ _ hw177_1;first|rwa [add_block] at this|exact this) GW178.out)|(rw [add_block];exact Nat.ne_of_lt (Nat.lt_of_lt_of_le (by have:=bl_ _ _ hw177_1;first|rwa [add_block] at this|exact this) GW178.out))|(show (Addr.add _ _).block ≠ _;rw [add_block];exact Nat.ne_of_lt (Nat.lt_of_lt_of_le (by have:=bl_ _ _ hw177_1;first|rwa [add_block] at this|exact this) GW178.out))|(dsimp only;exact Nat.ne_of_lt (Nat.lt_of_lt_of_le (by have:=bl_ _ _ hw177_1;first|rwa [add_block] at this|exact this) GW178.out))) _).trans (hHeld.2.2.2))))⟩ (fun hHeld=>?_)
     clear hK K
     refine one_ (i:=18) (N:=none) #[true,true,true,true,true,true,true,true,true,true,true,true,true,true,true,true,true,true,true] rfl rfl (one_of HT_.out (by kernel_rfl)) (by decide) (fun K hK=>?_)
     have hs17 : w14.cell? ⟨gb179,0,none⟩ = some (.int .i64 0):=(blk_cell BK179.out 0).trans rfl
     have hfs17:=blk_frozen BK179.out 0
     have hns17_0:=NB175_179.out
     have hns17_1:=NB178_179.out
     have hms17_0:=NB179_175.out
     have hms17_1:=NB179_178.out
     have hs18 : w14.cell? ⟨gb179,1,none⟩ = some (.int .i64 0):=(blk_cell BK179.out 1).trans rfl
     have hfs18:=blk_frozen BK179.out 1
     have hns18_0:=NB175_179.out
     have hns18_1:=NB178_179.out
     have hms18_0:=NB179_175.out
     have hms18_1:=NB179_178.out
     refine skip_ (w1:=?_) (by rfl) rfl ?_ ?_
     rotate_left
     ·
      go_simp
      rfl
     refine hK.out _ _ ⟨((cell_far (p:=⟨gb179,_,none⟩) (by first|exact Nat.ne_of_lt (Nat.lt_of_lt_of_le (by have:=bl_ _ _ hw176_0;first|rwa [add_block] at this|exact this) GW179.out)|(rw [add_block];exact Nat.ne_of_lt (Nat.lt_of_lt_of_le (by have:=bl_ _ _ hw176_0;first|rwa [add_block] at this|exact this) GW179.out))|(show (Addr.add _ _).block ≠ _;rw [add_block];exact Nat.ne_of_lt (Nat.lt_of_lt_of_le (by have:=bl_ _ _ hw176_0;first|rwa [add_block] at this|exact this) GW179.out))|(dsimp only;exact Nat.ne_of_lt (Nat.lt_of_lt_of_le (by have:=bl_ _ _ hw176_0;first|rwa [add_block] at this|exact this) GW179.out))) _).trans (((cell_far (p:=⟨gb179,_,none⟩) (by first|exact Nat.ne_of_lt (Nat.lt_of_lt_of_le (by have:=bl_ _ _ hw176_0;first|rwa [add_block] at this|exact this) GW179.out)|(rw [add_block];exact Nat.ne_of_lt (Nat.lt_of_lt_of_le (by have:=bl_ _ _ hw176_0;first|rwa [add_block] at this|exact this) GW179.out))|(show (Addr.add _ _).block ≠ _;rw [add_block];exact Nat.ne_of_lt (Nat.lt_of_lt_of_le (by have:=bl_ _ _ hw176_0;first|rwa [add_block] at this|exact this) GW179.out))|(dsimp only;exact Nat.ne_of_lt (Nat.lt_of_lt_of_le (by have:=bl_ _ _ hw176_0;first|rwa [add_block] at this|exact this) GW179.out))) _).trans (hHeld.1)))),((cell_far (p:=⟨gb179,_,none⟩) (by first|exact Nat.ne_of_lt (Nat.lt_of_lt_of_le (by have:=bl_ _ _ hw176_1;first|rwa [add_block] at this|exact this) GW179.out)|(rw [add_block];exact Nat.ne_of_lt (Nat.lt_of_lt_of_le (by have:=bl_ _ _ hw176_1;first|rwa [add_block] at this|exact this) GW179.out))|(show (Addr.add _ _).block ≠ _;rw [add_block];exact Nat.ne_of_lt (Nat.lt_of_lt_of_le (by have:=bl_ _ _ hw176_1;first|rwa [add_block] at this|exact this) GW179.out))|(dsimp only;exact Nat.ne_of_lt (Nat.lt_of_lt_of_le (by have:=bl_ _ _ hw176_1;first|rwa [add_block] at this|exact this) GW179.out))) _).trans (((cell_far (p:=⟨gb179,_,none⟩) (by first|exact Nat.ne_of_lt (Nat.lt_of_lt_of_le (by have:=bl_ _ _ hw176_1;first|rwa [add_block] at this|exact this) GW179.out)|(rw [add_block];exact Nat.ne_of_lt (Nat.lt_of_lt_of_le (by have:=bl_ _ _ hw176_1;first|rwa [add_block] at this|exact this) GW179.out))|(show (Addr.add _ _).block ≠ _;rw [add_block];exact Nat.ne_of_lt (Nat.lt_of_lt_of_le (by have:=bl_ _ _ hw176_1;first|rwa [add_block] at this|exact this) GW179.out))|(dsimp only;exact Nat.ne_of_lt (Nat.lt_of_lt_of_le (by have:=bl_ _ _ hw176_1;first|rwa [add_block] at this|exact this) GW179.out))) _).trans (hHeld.2.1)))),((cell_far (p:=⟨gb179,_,none⟩) (by first|exact Nat.ne_of_lt (Nat.lt_of_lt_of_le (by have:=bl_ _ _ hw177_0;first|rwa [add_block] at this|exact this) GW179.out)|(rw [add_block];exact Nat.ne_of_lt (Nat.lt_of_lt_of_le (by have:=bl_ _ _ hw177_0;first|rwa [add_block] at this|exact this) GW179.out))|(show (Addr.add _ _).block ≠ _;rw [add_block];exact Nat.ne_of_lt (Nat.lt_of_lt_of_le (by have:=bl_ _ _ hw177_0;first|rwa [add_block] at this|exact this) GW179.out))|(dsimp only;exact Nat.ne_of_lt (Nat.lt_of_lt_of_le (by have:=bl_ _ _ hw177_0;first|rwa [add_block] at this|exact this) GW179.out))) _).trans (((cell_far (p:=⟨gb179,_,none⟩) (by first|exact Nat.ne_of_lt (Nat.lt_of_lt_of_le (by have:=bl_ _ _ hw177_0;first|rwa [add_block] at this|exact this) GW179.out)|(rw [add_block];exact Nat.ne_of_lt (Nat.lt_of_lt_of_le (by have:=bl_ _ _ hw177_0;first|rwa [add_block] at this|exact this) GW179.out))|(show (Addr.add _ _).block ≠ _;rw [add_block];exact Nat.ne_of_lt (Nat.lt_of_lt_of_le (by have:=bl_ _ _ hw177_0;first|rwa [add_block] at this|exact this) GW179.out))|(dsimp only;exact Nat.ne_of_lt (Nat.lt_of_lt_of_le (by have:=bl_ _ _ hw177_0;first|rwa [add_block] at this|exact this) GW179.out))) _).trans (hHeld.2.2.1)))),((cell_far (p:=⟨gb179,_,none⟩) (by first|exact Nat.ne_of_lt (Nat.lt_of_lt_of_le (by have:=bl_ _ _ hw177_1;first|rwa [add_block] at this|exact this) GW179.out)|(rw [add_block];exact Nat.ne_of_lt (Nat.lt_of_lt_of_le (by have:=bl_ _ _ hw177_1;first|rwa [add_block] at this|exact this) GW179.out))|(show (Addr.add _ _).block ≠ _;rw [add_block];exact Nat.ne_of_lt (Nat.lt_of_lt_of_le (by have:=bl_ _ _ hw177_1;first|rwa [add_block] at this|exact this) GW179.out))|(dsimp only;exact Nat.ne_of_lt (Nat.lt_of_lt_of_le (by have:=bl_ _ _ hw177_1;first|rwa [add_block] at this|exact this) GW179.out))) _).trans (((cell_far (p:=⟨gb179,_,none⟩) (by first|exact Nat.ne_of_lt (Nat.lt_of_lt_of_le (by have:=bl_ _ _ hw177_1;first|rwa [add_block] at this|exact this) GW179.out)|(rw [add_block];exact Nat.ne_of_lt (Nat.lt_of_lt_of_le (by have:=bl_ _ _ hw177_1;first|rwa [add_block] at this|exact this) GW179.out))|(show (Addr.add _ _).block ≠ _;rw [add_block];exact Nat.ne_of_lt (Nat.lt_of_lt_of_le (by have:=bl_ _ _ hw177_1;first|rwa [add_block] at this|exact this) GW179.out))|(dsimp only;exact Nat.ne_of_lt (Nat.lt_of_lt_of_le (by have:=bl_ _ _ hw177_1;first|rwa [add_block] at this|exact this) GW179.out))) _).trans (hHeld.2.2.2))))⟩ (fun hHeld=>?_)
     clear hK K
     refine done_ (done_of HT_.out (by kernel_rfl)) ?_
     have hnb19:=NB179_175.out
     have hnc19:=NB175_179.out
     have hnb20:=NB179_178.out
     have hnc20:=NB178_179.out
     have hcz21_0 : w14.cell? ⟨gb179,0,none⟩ = some (.int .i64 0):=(blk_cell BK179.out 0).trans rfl
     have hcz21_1 : w14.cell? ⟨gb179,1,none⟩ = some (.int .i64 0):=(blk_cell BK179.out 1).trans rfl
     have hfz21_0:=blk_frozen BK179.out 0
     have hfz21_1:=blk_frozen BK179.out 1
     have hnb22:=NB178_175.out
     have hnc22:=NB175_178.out
     have hcz23_0 : w14.cell? ⟨gb178,0,none⟩ = some (.int .i64 0):=(blk_cell BK178.out 0).trans rfl
     have hcz23_1 : w14.cell? ⟨gb178,1,none⟩ = some (.int .i64 0):=(blk_cell BK178.out 1).trans rfl
     have hfz23_0:=blk_frozen BK178.out 0
     have hfz23_1:=blk_frozen BK178.out 1
     have hcz24_0 : w14.cell? ⟨gb175,0,none⟩ = some (.int .i64 0):=(blk_cell BK175.out 0).trans rfl
     have hcz24_1 : w14.cell? ⟨gb175,1,none⟩ = some (.int .i64 0):=(blk_cell BK175.out 1).trans rfl
     have hfz24_0:=blk_frozen BK175.out 0
     have hfz24_1:=blk_frozen BK175.out 1
     try go_wp2
     refine bodyPost_ret (results_cell_row rfl _ _ gb175 30 #[.int .i64 (wrap64 (((rd_T30 l0 (ji7)).f0) - ((rd_T30 l0 (ji4)).f0))),.int .i64 (wrap64 (((rd_T30 l0 (ji7)).f1) - ((rd_T30 l0 (ji4)).f1)))] (0,0) _ rfl (by (with_reducible repeat (first|refine kn_ ?_ _|refine kd_ ?_|refine ka_ ?_ _));refine blk_put (cs:=#[.int .i64 (wrap64 (((rd_T30 l0 (ji7)).f0) - ((rd_T30 l0 (ji4)).f0))),.int .i64 0]) ?_ 1 _ rfl;(with_reducible repeat (first|refine kn_ ?_ _|refine kd_ ?_|refine ka_ ?_ _));refine blk_put (cs:=#[.int .i64 0,.int .i64 0]) ?_ 0 _ rfl;(with_reducible repeat (first|refine kn_ ?_ _|refine kd_ ?_|refine ka_ ?_ _));refine blk_far ?_ NB175_179.out _;(with_reducible repeat (first|refine kn_ ?_ _|refine kd_ ?_|refine ka_ ?_ _));refine blk_far ?_ NB175_179.out _;(with_reducible repeat (first|refine kn_ ?_ _|refine kd_ ?_|refine ka_ ?_ _));refine blk_far ?_ NB175_178.out _;(with_reducible repeat (first|refine kn_ ?_ _|refine kd_ ?_|refine ka_ ?_ _));refine blk_far ?_ NB175_178.out _;(with_reducible repeat (first|refine kn_ ?_ _|refine kd_ ?_|refine ka_ ?_ _));exact BK175.out) Try.underlying30 rfl (by kernel_rfl)) rfl ?_
     exact ⟨by first|rfl|(simp [errW_none,errW_some] <;> rfl)|(simp only [← hji4,← hji7];first|rfl|(simp [errW_none,errW_some] <;> rfl))|(simp [*,errW_none,errW_some] <;> rfl),by repeat (first|(with_reducible first|exact HB.out|apply ba_|apply bn_|apply bd_|refine below_set ?_ GE175.out|refine below_set ?_ GE178.out|refine below_set ?_ GE179.out)|exact HB.out)⟩
    rw [if_neg c9] at H
    exact absurd H (by simp)
   rw [if_neg c8] at H
   exact absurd H (by simp)
  rw [if_neg c6] at H
  exact absurd H (by simp)
 rw [if_neg c5] at H
 exact absurd H (by simp)

end Go.Proofs.Ytlnigbhimdphoaa.C
