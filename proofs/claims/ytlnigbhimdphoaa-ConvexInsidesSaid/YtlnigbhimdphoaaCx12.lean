-- PRINTED by print.py (a twelfth state) out of the translation. Not trusted: Lean checks it.
import Derived.Test.YtlnigbhimdphoaaCx0
import Derived.Test.YtlnigbhimdphoaaCx11
namespace Go.Proofs.Ytlnigbhimdphoaa.C
open Go.RowKit Go.Proofs.YtlnigbhimdphoaaW.PrintWords Go.Proofs.YtlnigbhimdphoaaW.PrintLast Go.Proofs.YtlnigbhimdphoaaW.PrintMore
attribute [local go_sem] max2_int min2_int max_two min_two max_three min_three max_four min_four Go.Proofs.Ytlnigbhimdphoaa.Aid.isSome_setCell   -- for this text's walks alone
set_option linter.unusedVariables false
set_option linter.unusedSimpArgs false

/-! ### garmentref11_Least: function 43 -/
def garmentref11_Least.l0 : Nat → List (S30) → Int → Int → Option ((List (S30)))
 | 0,_,_,_=>none
 | k + 1,x0,x3,x4=>if x4 < (x0.length : Int) then (if 0 ≤ x4 then (if 0 ≤ x3 then (if x3 < (x0.length : Int) then ((garmentref11_Less.f ((rd_T30 x0 x4).f0) ((rd_T30 x0 x4).f1) ((rd_T30 x0 x3).f0) ((rd_T30 x0 x3).f1)).bind fun t263=>(if t263 = true then (garmentref11_Least.l0 k x0 x4 (wrap64 (x4 + 1))) else (garmentref11_Least.l0 k x0 x3 (wrap64 (x4 + 1))))) else (none)) else (none)) else (none)) else (if 0 ≤ x3 then (if x3 ≤ (x0.length : Int) then ((some (x0.drop (x3 : Int).toNat : List (S30))).bind fun y264=>(if ([] : List (S30)).length + y264.length < 8796093022208 then ((some (([] : List (S30)) ++ y264 : List (S30))).bind fun y268=>((some (x0.take (x3 : Int).toNat : List (S30))).bind fun y271=>(if y268.length + y271.length < 8796093022208 then (some (y268 ++ y271)) else (none)))) else (none))) else (none)) else (none))
def garmentref11_Least.f (k : Nat) (l0 : List (S30)) : Option ((List (S30))):=garmentref11_Least.l0 k l0 0 1
theorem garmentref11_Least.mono_l : ∀ k,(∀ y0 y1 y2,LeO (garmentref11_Least.l0 k y0 y1 y2) (garmentref11_Least.l0 (k + 1) y0 y1 y2))
 | 0=>fun _ _ _ r h=>by simp [garmentref11_Least.l0] at h
 | k + 1=>by
  have ih0:=garmentref11_Least.mono_l k
  intro y0 y1 y2
  unfold garmentref11_Least.l0
  repeat' first
  | (with_reducible exact ih0 _ _ _)
  | (with_reducible exact LeO.refl _)
  | (with_reducible exact LeO.none _)
  | (with_reducible refine LeO.ite ?_ ?_)
  | (with_reducible refine LeO.bind ?_ (fun _=>?_))
  | exact ih0 _ _ _
  | exact LeO.none _
  | refine LeO.ite ?_ ?_
  | refine LeO.bind ?_ (fun _=>?_)
theorem garmentref11_Least.mono : ∀ a0 k,LeO (garmentref11_Least.f k a0) (garmentref11_Least.f (k + 1) a0):=by
 intro a0 k
 have ih0:=garmentref11_Least.mono_l k
 unfold garmentref11_Least.f
 repeat' first
   | (with_reducible exact ih0 _ _ _)
   | (with_reducible exact LeO.refl _)
   | (with_reducible exact LeO.none _)
   | (with_reducible refine LeO.ite ?_ ?_)
   | (with_reducible refine LeO.bind ?_ (fun _=>?_))
   | exact ih0 _ _ _
   | exact LeO.none _
   | refine LeO.ite ?_ ?_
   | refine LeO.bind ?_ (fun _=>?_)
def garmentref11_Least.T5 : Bool × List (List Nat × List Nat):=(true,[([],[]),([],[]),([0,1],[0,1]),([2],[2]),([],[]),([],[]),([4,5],[4,5]),([6],[6]),([3,7],[3,7])])
def garmentref11_Least.B5 : List Nat:=[0,0,3,7,0,0,48,112,255]
theorem garmentref11_Least.tab5 : rtab .any (opsOf Try.f43 5) = garmentref11_Least.T5:=by kernel_rfl
theorem garmentref11_Least.bits5 : waitsOk garmentref11_Least.T5.2 garmentref11_Least.B5 = true:=by kernel_rfl
set_option maxHeartbeats 8000000 in
set_option maxRecDepth 100000 in
theorem garmentref11_Least.calls (k : Nat) (A0 : Option Addr) (c0 : Nat) (l0 : List (S30)) (r : List (S30)) (w : World) (hr0 : Kd.C k30 w A0 l0.length l0) (hc0 : l0.length ≤ c0) (h : garmentref11_Least.f k l0 = some r) :
  Calls Try.prog 43 #[.slice A0 l0.length c0] w fun e w'=>∃ v0_ : Value,e = .returned (v0_)∧Kd.R k30 30 w' w.heap.size (fun _=>True) v0_ r∧Below w.heap.size w w':=by
 have hu30:=Try.underlying30
 have HR0:=Aside0.mk hr0
 have HC0:=Aside0.mk hc0
 clear hr0 hc0
 have HB:=Aside0.mk (Below.refl w.heap.size w)
 have H : (garmentref11_Least.l0 k l0 0 1) = some r:=h
 clear h
 have H':=Aside0.mk H
 clear H
 go_enter Try.func43,Try.ntmps43
 go_wp2
 go_loopg [3,4] k (fun kq v3 v4 w'=>∃ (x3_1 : Int) (x4_1 : Int),v3 = .int .i64 x3_1∧v4 = .int .i64 x4_1∧Aside0 (garmentref11_Least.l0 kq l0 x3_1 x4_1 = some r)∧Aside0 (kq ≤ k)∧Aside0 (Below w.heap.size w w'))
 case atStart=>exact ⟨(0),(1),(by first|rfl|(simp;done)|(simp [*];done)),(by first|rfl|(simp;done)|(simp [*];done)),H',⟨Nat.le_refl _⟩,⟨by repeat (first|(with_reducible first|exact HB.out|apply ba_|apply bn_|apply bd_)|exact HB.out)⟩⟩
 case round =>
  clear H'
  obtain ⟨x3_1,x4_1,rfl,rfl,HA,HK1,HB⟩:=hrel
  cases gk with
  | zero=>exact absurd HA.out (by simp [garmentref11_Least.l0])
  | succ k1 =>
   have H:=HA.out
   clear HA
   simp only [garmentref11_Least.l0] at H
   by_cases c2 : x4_1 < (l0.length : Int)
   ·
    rw [if_pos c2] at H
    have c2b0 : decide (x4_1 < (l0.length : Int)) = true:=decide_eq_true c2
    clear c2
    by_cases c3 : 0 ≤ x4_1
    ·
     rw [if_pos c3] at H
     have c3b0 : decide (0 ≤ x4_1) = true:=decide_eq_true c3
     clear c3
     by_cases c4 : 0 ≤ x3_1
     ·
      rw [if_pos c4] at H
      have c4b0 : decide (0 ≤ x3_1) = true:=decide_eq_true c4
      clear c4
      by_cases c5 : x3_1 < (l0.length : Int)
      ·
       rw [if_pos c5] at H
       have c5b0 : decide (x3_1 < (l0.length : Int)) = true:=decide_eq_true c5
       clear c5
       replace H:=Option.bind_eq_some_iff.mp H
       obtain ⟨t263,A60,H⟩:=H
       replace H : (if t263 = true then (garmentref11_Least.l0 k1 l0 x4_1 (wrap64 (x4_1 + 1))) else (garmentref11_Least.l0 k1 l0 x3_1 (wrap64 (x4_1 + 1)))) = some r:=H
       have A6:=Aside0.mk A60
       clear A60
       by_cases c7 : t263 = true
       ·
        subst c7
        have H1 : (garmentref11_Least.l0 k1 l0 x4_1 (wrap64 (x4_1 + 1))) = some r:=by rw [if_pos rfl] at H;exact H
        clear H
        have H:=H1
        clear H1
        have H':=Aside0.mk H
        clear H
        try go_wp2
        have n0_:=Aside0.mk (bd_ HB.out)
        clear HB
        have HB:=n0_
        clear n0_
        have p261 : 0 ≤ (x4_1 : Int):=of_decide_eq_true (by first|(with_reducible assumption)|assumption)
        have q261 : x4_1 < (l0.length : Int):=of_decide_eq_true (by first|(with_reducible assumption)|assumption)
        obtain ⟨ad261,e261,hx261_0,hx261_1⟩:=at_T30 HR0.out x4_1 p261 q261
        have hw261_1:=hx261_1
        have hw261_0:=hx261_0
        cases e261
        replace hx261_0:=(HB.out.cell (bl_ w _ hx261_0)).trans hx261_0
        replace hx261_1:=(HB.out.cell (bl_ w _ hx261_1)).trans hx261_1
        replace p261:=eq_true p261
        replace q261:=eq_true q261
        have p262 : 0 ≤ (x3_1 : Int):=of_decide_eq_true (by first|(with_reducible assumption)|assumption)
        have q262 : x3_1 < (l0.length : Int):=of_decide_eq_true (by first|(with_reducible assumption)|assumption)
        obtain ⟨ad262,e262,hx262_0,hx262_1⟩:=at_T30 HR0.out x3_1 p262 q262
        have hw262_1:=hx262_1
        have hw262_0:=hx262_0
        obtain rfl : ad261 = ad262:=(by injection e262)
        replace hx262_0:=(HB.out.cell (bl_ w _ hx262_0)).trans hx262_0
        replace hx262_1:=(HB.out.cell (bl_ w _ hx262_1)).trans hx262_1
        replace p262:=eq_true p262
        replace q262:=eq_true q262
        refine start_ (n:=9) (S:=fun w'=>w'.cell? (ad261.add ((x4_1).toNat * 2)) = some (.int .i64 ((rd_T30 l0 x4_1).f0))∧w'.cell? ⟨(ad261.add ((x4_1).toNat * 2)).block,(ad261.add ((x4_1).toNat * 2)).off + 1,none⟩ = some (.int .i64 ((rd_T30 l0 x4_1).f1))∧w'.cell? (ad261.add ((x3_1).toNat * 2)) = some (.int .i64 ((rd_T30 l0 x3_1).f0))∧w'.cell? ⟨(ad261.add ((x3_1).toNat * 2)).block,(ad261.add ((x3_1).toNat * 2)).off + 1,none⟩ = some (.int .i64 ((rd_T30 l0 x3_1).f1))) (ds:=[]) #[false,false,false,false,false,false,false,false,false] (by kernel_rfl) rfl rfl ⟨((HB.out.cell (bl_ w _ hw261_0)).trans hw261_0),((HB.out.cell (bl_ w _ hw261_1)).trans hw261_1),((HB.out.cell (bl_ w _ hw262_0)).trans hw262_0),((HB.out.cell (bl_ w _ hw262_1)).trans hw262_1)⟩ (fun hHeld=>?_);refine with_tabW garmentref11_Least.tab5 garmentref11_Least.bits5 (fun HT_ HW_=>?_)
        generalize wr.drew = w8 at HB hx261_0 hx261_1 hx262_0 hx262_1 hHeld ⊢
        refine pure_ (i:=0) (N:=some 12) (v:=?_) (a':=?_) #[true,false,false,false,false,false,false,false,false] rfl rfl (any_of HT_.out (by kernel_rfl)) (fun _ _ _ h=>h) (Or.inl ⟨by rfl,?_⟩) ?_ ?_
        rotate_left
        ·
         intro w'
         go_simp
         with_reducible rfl
        rotate_left
        ·
         simp only [Act.put,la_,l0_,l1_,i64_w,i32_w]
         rfl
        refine pure_ (i:=1) (N:=some 13) (v:=?_) (a':=?_) #[true,true,false,false,false,false,false,false,false] rfl rfl (any_of HT_.out (by kernel_rfl)) (fun _ _ _ h=>h) (Or.inl ⟨by rfl,?_⟩) ?_ ?_
        rotate_left
        ·
         intro w'
         go_simp
         with_reducible rfl
        rotate_left
        ·
         simp only [Act.put,la_,l0_,l1_,i64_w,i32_w]
         rfl
        refine pure_ (i:=2) (N:=some 14) (v:=?_) (a':=?_) #[true,true,true,false,false,false,false,false,false] rfl rfl (any_of HT_.out (by kernel_rfl)) (fun _ _ _ h=>h) (Or.inl ⟨by rfl,?_⟩) ?_ ?_
        rotate_left
        ·
         intro w'
         go_simp
         with_reducible rfl
        rotate_left
        ·
         simp only [Act.put,la_,l0_,l1_,i64_w,i32_w]
         rfl
        refine pure_ (i:=4) (N:=some 16) (v:=?_) (a':=?_) #[true,true,true,false,true,false,false,false,false] rfl rfl (any_of HT_.out (by kernel_rfl)) (fun _ _ _ h=>h) (Or.inl ⟨by rfl,?_⟩) ?_ ?_
        rotate_left
        ·
         intro w'
         go_simp
         with_reducible rfl
        rotate_left
        ·
         simp only [Act.put,la_,l0_,l1_,i64_w,i32_w]
         rfl
        refine pure_ (i:=5) (N:=some 17) (v:=?_) (a':=?_) #[true,true,true,false,true,true,false,false,false] rfl rfl (any_of HT_.out (by kernel_rfl)) (fun _ _ _ h=>h) (Or.inl ⟨by rfl,?_⟩) ?_ ?_
        rotate_left
        ·
         intro w'
         go_simp
         with_reducible rfl
        rotate_left
        ·
         simp only [Act.put,la_,l0_,l1_,i64_w,i32_w]
         rfl
        refine pure_ (i:=6) (N:=some 18) (v:=?_) (a':=?_) #[true,true,true,false,true,true,true,false,false] rfl rfl (any_of HT_.out (by kernel_rfl)) (fun _ _ _ h=>h) (Or.inl ⟨by rfl,?_⟩) ?_ ?_
        rotate_left
        ·
         intro w'
         go_simp
         with_reducible rfl
        rotate_left
        ·
         simp only [Act.put,la_,l0_,l1_,i64_w,i32_w]
         rfl
        refine take_ (i:=3) (N:=some 15) (v:=?_) (a':=?_) #[true,true,true,true,true,true,true,false,false] rfl rfl (take_ofW HT_.out HW_.out (by kernel_rfl)) (fun _ _ _ h=>h) (Or.inl ⟨by rfl,?_⟩) hHeld ?_ ?_
        rotate_left
        ·
         rintro w' ⟨s0,s1,s2,s3⟩
         go_simp
         with_reducible rfl
        rotate_left
        ·
         simp only [Act.put,la_,l0_,l1_,i64_w,i32_w]
         rfl
        refine take_ (i:=7) (N:=some 19) (v:=?_) (a':=?_) #[true,true,true,true,true,true,true,true,false] rfl rfl (take_ofW HT_.out HW_.out (by kernel_rfl)) (fun _ _ _ h=>h) (Or.inl ⟨by rfl,?_⟩) hHeld ?_ ?_
        rotate_left
        ·
         rintro w' ⟨s0,s1,s2,s3⟩
         go_simp
         with_reducible rfl
        rotate_left
        ·
         simp only [Act.put,la_,l0_,l1_,i64_w,i32_w]
         rfl
        refine one_ (i:=8) (N:=some 20) #[true,true,true,true,true,true,true,true,true] rfl rfl (one_of HT_.out (by kernel_rfl)) (by decide) (fun K hK=>?_)
        refine goes_ Try.func24 (by kernel_rfl) rfl #[.agg #[.int .i64 ((rd_T30 l0 x4_1).f0),.int .i64 ((rd_T30 l0 x4_1).f1)],.agg #[.int .i64 ((rd_T30 l0 x3_1).f0),.int .i64 ((rd_T30 l0 x3_1).f1)]] (by rfl) rfl rfl (by (try simp only [List.map_toArray,List.map_cons,List.map_nil]);first|done|rfl|(simp only [List.length_drop,List.length_take];rfl)) ?_
        with_reducible refine (garmentref11_Less.calls ((rd_T30 l0 x4_1).f0) ((rd_T30 l0 x4_1).f1) ((rd_T30 l0 x3_1).f0) ((rd_T30 l0 x3_1).f1) true _ A6.out).mono ?_
        rintro e w9 ⟨rfl,hb⟩
        refine ⟨_,rfl,?_⟩
        have n0_:=Aside0.mk (below_step (by repeat (first|(with_reducible first|exact HB.out|apply ba_|apply bn_|apply bd_)|exact HB.out)) hb)
        clear HB
        have HB:=n0_
        clear n0_
        (try clear hb)
        (try clear hb2)
        (try clear hk)
        (try clear hi)
        refine hK.out _ _ ⟨((HB.out.cell (bl_ w _ hw261_0)).trans hw261_0),((HB.out.cell (bl_ w _ hw261_1)).trans hw261_1),((HB.out.cell (bl_ w _ hw262_0)).trans hw262_0),((HB.out.cell (bl_ w _ hw262_1)).trans hw262_1)⟩ (fun hHeld=>?_)
        clear hK K
        refine norm_ (a':=?_) ?_ ?_
        rotate_left
        ·
         show Act.put _ (some 20) _ = _
         simp only [Act.put,la_,l0_,l1_,i64_w,i32_w]
         rfl
        refine done_ (done_of HT_.out (by kernel_rfl)) ?_
        try go_wp2
        go_roundg k1
        case measure=>have:=HK1.out;omega
        case rel=>exact ⟨(x4_1),(wrap64 (x4_1 + 1)),(by first|rfl|(simp;done)|(simp [*];done)),(by first|rfl|(simp;done)|(simp [*];done)),H',⟨by have:=HK1.out;omega⟩,⟨by repeat (first|(with_reducible first|exact HB.out|apply ba_|apply bn_|apply bd_)|exact HB.out)⟩⟩
       replace c7:=Bool.eq_false_iff.mpr c7
       subst c7
       have H1 : (garmentref11_Least.l0 k1 l0 x3_1 (wrap64 (x4_1 + 1))) = some r:=by rw [if_neg (show ¬ (false = true) by decide)] at H;exact H
       clear H
       have H:=H1
       clear H1
       have H':=Aside0.mk H
       clear H
       try go_wp2
       have n0_:=Aside0.mk (bd_ HB.out)
       clear HB
       have HB:=n0_
       clear n0_
       have p261 : 0 ≤ (x4_1 : Int):=of_decide_eq_true (by first|(with_reducible assumption)|assumption)
       have q261 : x4_1 < (l0.length : Int):=of_decide_eq_true (by first|(with_reducible assumption)|assumption)
       obtain ⟨ad261,e261,hx261_0,hx261_1⟩:=at_T30 HR0.out x4_1 p261 q261
       have hw261_1:=hx261_1
       have hw261_0:=hx261_0
       cases e261
       replace hx261_0:=(HB.out.cell (bl_ w _ hx261_0)).trans hx261_0
       replace hx261_1:=(HB.out.cell (bl_ w _ hx261_1)).trans hx261_1
       replace p261:=eq_true p261
       replace q261:=eq_true q261
       have p262 : 0 ≤ (x3_1 : Int):=of_decide_eq_true (by first|(with_reducible assumption)|assumption)
       have q262 : x3_1 < (l0.length : Int):=of_decide_eq_true (by first|(with_reducible assumption)|assumption)
       obtain ⟨ad262,e262,hx262_0,hx262_1⟩:=at_T30 HR0.out x3_1 p262 q262
       have hw262_1:=hx262_1
       have hw262_0:=hx262_0
       obtain rfl : ad261 = ad262:=(by injection e262)
       replace hx262_0:=(HB.out.cell (bl_ w _ hx262_0)).trans hx262_0
       replace hx262_1:=(HB.out.cell (bl_ w _ hx262_1)).trans hx262_1
       replace p262:=eq_true p262
       replace q262:=eq_true q262
       refine start_ (n:=9) (S:=fun w'=>w'.cell? (ad261.add ((x4_1).toNat * 2)) = some (.int .i64 ((rd_T30 l0 x4_1).f0))∧w'.cell? ⟨(ad261.add ((x4_1).toNat * 2)).block,(ad261.add ((x4_1).toNat * 2)).off + 1,none⟩ = some (.int .i64 ((rd_T30 l0 x4_1).f1))∧w'.cell? (ad261.add ((x3_1).toNat * 2)) = some (.int .i64 ((rd_T30 l0 x3_1).f0))∧w'.cell? ⟨(ad261.add ((x3_1).toNat * 2)).block,(ad261.add ((x3_1).toNat * 2)).off + 1,none⟩ = some (.int .i64 ((rd_T30 l0 x3_1).f1))) (ds:=[]) #[false,false,false,false,false,false,false,false,false] (by kernel_rfl) rfl rfl ⟨((HB.out.cell (bl_ w _ hw261_0)).trans hw261_0),((HB.out.cell (bl_ w _ hw261_1)).trans hw261_1),((HB.out.cell (bl_ w _ hw262_0)).trans hw262_0),((HB.out.cell (bl_ w _ hw262_1)).trans hw262_1)⟩ (fun hHeld=>?_);refine with_tabW garmentref11_Least.tab5 garmentref11_Least.bits5 (fun HT_ HW_=>?_)
       generalize wr.drew = w10 at HB hx261_0 hx261_1 hx262_0 hx262_1 hHeld ⊢
       refine pure_ (i:=0) (N:=some 12) (v:=?_) (a':=?_) #[true,false,false,false,false,false,false,false,false] rfl rfl (any_of HT_.out (by kernel_rfl)) (fun _ _ _ h=>h) (Or.inl ⟨by rfl,?_⟩) ?_ ?_
       rotate_left
       ·
        intro w'
        go_simp
        with_reducible rfl
       rotate_left
       ·
        simp only [Act.put,la_,l0_,l1_,i64_w,i32_w]
        rfl
       refine pure_ (i:=1) (N:=some 13) (v:=?_) (a':=?_) #[true,true,false,false,false,false,false,false,false] rfl rfl (any_of HT_.out (by kernel_rfl)) (fun _ _ _ h=>h) (Or.inl ⟨by rfl,?_⟩) ?_ ?_
       rotate_left
       ·
        intro w'
        go_simp
        with_reducible rfl
       rotate_left
       ·
        simp only [Act.put,la_,l0_,l1_,i64_w,i32_w]
        rfl
       refine pure_ (i:=2) (N:=some 14) (v:=?_) (a':=?_) #[true,true,true,false,false,false,false,false,false] rfl rfl (any_of HT_.out (by kernel_rfl)) (fun _ _ _ h=>h) (Or.inl ⟨by rfl,?_⟩) ?_ ?_
       rotate_left
       ·
        intro w'
        go_simp
        with_reducible rfl
       rotate_left
       ·
        simp only [Act.put,la_,l0_,l1_,i64_w,i32_w]
        rfl
       refine pure_ (i:=4) (N:=some 16) (v:=?_) (a':=?_) #[true,true,true,false,true,false,false,false,false] rfl rfl (any_of HT_.out (by kernel_rfl)) (fun _ _ _ h=>h) (Or.inl ⟨by rfl,?_⟩) ?_ ?_
       rotate_left
       ·
        intro w'
        go_simp
        with_reducible rfl
       rotate_left
       ·
        simp only [Act.put,la_,l0_,l1_,i64_w,i32_w]
        rfl
       refine pure_ (i:=5) (N:=some 17) (v:=?_) (a':=?_) #[true,true,true,false,true,true,false,false,false] rfl rfl (any_of HT_.out (by kernel_rfl)) (fun _ _ _ h=>h) (Or.inl ⟨by rfl,?_⟩) ?_ ?_
       rotate_left
       ·
        intro w'
        go_simp
        with_reducible rfl
       rotate_left
       ·
        simp only [Act.put,la_,l0_,l1_,i64_w,i32_w]
        rfl
       refine pure_ (i:=6) (N:=some 18) (v:=?_) (a':=?_) #[true,true,true,false,true,true,true,false,false] rfl rfl (any_of HT_.out (by kernel_rfl)) (fun _ _ _ h=>h) (Or.inl ⟨by rfl,?_⟩) ?_ ?_
       rotate_left
       ·
        intro w'
        go_simp
        with_reducible rfl
       rotate_left
       ·
        simp only [Act.put,la_,l0_,l1_,i64_w,i32_w]
        rfl
       refine take_ (i:=3) (N:=some 15) (v:=?_) (a':=?_) #[true,true,true,true,true,true,true,false,false] rfl rfl (take_ofW HT_.out HW_.out (by kernel_rfl)) (fun _ _ _ h=>h) (Or.inl ⟨by rfl,?_⟩) hHeld ?_ ?_
       rotate_left
       ·
        rintro w' ⟨s0,s1,s2,s3⟩
        go_simp
        with_reducible rfl
       rotate_left
       ·
        simp only [Act.put,la_,l0_,l1_,i64_w,i32_w]
        rfl
       refine take_ (i:=7) (N:=some 19) (v:=?_) (a':=?_) #[true,true,true,true,true,true,true,true,false] rfl rfl (take_ofW HT_.out HW_.out (by kernel_rfl)) (fun _ _ _ h=>h) (Or.inl ⟨by rfl,?_⟩) hHeld ?_ ?_
       rotate_left
       ·
        rintro w' ⟨s0,s1,s2,s3⟩
        go_simp
        with_reducible rfl
       rotate_left
       ·
        simp only [Act.put,la_,l0_,l1_,i64_w,i32_w]
        rfl
       refine one_ (i:=8) (N:=some 20) #[true,true,true,true,true,true,true,true,true] rfl rfl (one_of HT_.out (by kernel_rfl)) (by decide) (fun K hK=>?_)
       refine goes_ Try.func24 (by kernel_rfl) rfl #[.agg #[.int .i64 ((rd_T30 l0 x4_1).f0),.int .i64 ((rd_T30 l0 x4_1).f1)],.agg #[.int .i64 ((rd_T30 l0 x3_1).f0),.int .i64 ((rd_T30 l0 x3_1).f1)]] (by rfl) rfl rfl (by (try simp only [List.map_toArray,List.map_cons,List.map_nil]);first|done|rfl|(simp only [List.length_drop,List.length_take];rfl)) ?_
       with_reducible refine (garmentref11_Less.calls ((rd_T30 l0 x4_1).f0) ((rd_T30 l0 x4_1).f1) ((rd_T30 l0 x3_1).f0) ((rd_T30 l0 x3_1).f1) false _ A6.out).mono ?_
       rintro e w11 ⟨rfl,hb⟩
       refine ⟨_,rfl,?_⟩
       have n0_:=Aside0.mk (below_step (by repeat (first|(with_reducible first|exact HB.out|apply ba_|apply bn_|apply bd_)|exact HB.out)) hb)
       clear HB
       have HB:=n0_
       clear n0_
       (try clear hb)
       (try clear hb2)
       (try clear hk)
       (try clear hi)
       refine hK.out _ _ ⟨((HB.out.cell (bl_ w _ hw261_0)).trans hw261_0),((HB.out.cell (bl_ w _ hw261_1)).trans hw261_1),((HB.out.cell (bl_ w _ hw262_0)).trans hw262_0),((HB.out.cell (bl_ w _ hw262_1)).trans hw262_1)⟩ (fun hHeld=>?_)
       clear hK K
       refine norm_ (a':=?_) ?_ ?_
       rotate_left
       ·
        show Act.put _ (some 20) _ = _
        simp only [Act.put,la_,l0_,l1_,i64_w,i32_w]
        rfl
       refine done_ (done_of HT_.out (by kernel_rfl)) ?_
       try go_wp2
       go_roundg k1
       case measure=>have:=HK1.out;omega
       case rel=>exact ⟨(x3_1),(wrap64 (x4_1 + 1)),(by first|rfl|(simp;done)|(simp [*];done)),(by first|rfl|(simp;done)|(simp [*];done)),H',⟨by have:=HK1.out;omega⟩,⟨by repeat (first|(with_reducible first|exact HB.out|apply ba_|apply bn_|apply bd_)|exact HB.out)⟩⟩
      rw [if_neg c5] at H
      exact absurd H (by simp)
     rw [if_neg c4] at H
     exact absurd H (by simp)
    rw [if_neg c3] at H
    exact absurd H (by simp)
   rw [if_neg c2] at H
   have c2b0 : decide (x4_1 < (l0.length : Int)) = false:=decide_eq_false c2
   clear c2
   by_cases c12 : 0 ≤ x3_1
   ·
    rw [if_pos c12] at H
    have c12b0:=eq_true c12
    have c12b1 : decide (0 ≤ x3_1) = true:=decide_eq_true c12
    clear c12
    by_cases c13 : x3_1 ≤ (l0.length : Int)
    ·
     rw [if_pos c13] at H
     have c13b0:=eq_true c13
     have c13b1 : decide (x3_1 ≤ (l0.length : Int)) = true:=decide_eq_true c13
     clear c13
     obtain ⟨y264,hy264⟩ : ∃ y_ : List (S30),y_ = (l0.drop (x3_1 : Int).toNat):=⟨_,rfl⟩
     replace H : (if ([] : List (S30)).length + y264.length < 8796093022208 then ((some (([] : List (S30)) ++ y264 : List (S30))).bind fun y268=>((some (l0.take (x3_1 : Int).toNat : List (S30))).bind fun y271=>(if y268.length + y271.length < 8796093022208 then (some (y268 ++ y271)) else (none)))) else (none)) = some r:=by first|(rw [hy264];with_reducible exact H)|(have H2_:=(Option.bind_some _ _).symm.trans H;rw [hy264];with_reducible exact H2_)|(have H2_:=(Option.bind_some _ _).symm.trans H;with_reducible exact H2_)|with_reducible exact H|(rw [hy264];exact H)|exact H
     have Ny264:=Aside0.mk hy264
     clear hy264
     by_cases c14 : ([] : List (S30)).length + y264.length < 8796093022208
     ·
      rw [if_pos c14] at H
      have LMc14:=Aside0.mk c14
      clear c14
      obtain ⟨y268,hy268⟩ : ∃ y_ : List (S30),y_ = (([] : List (S30)) ++ y264):=⟨_,rfl⟩
      replace H : ((some (l0.take (x3_1 : Int).toNat : List (S30))).bind fun y271=>(if y268.length + y271.length < 8796093022208 then (some (y268 ++ y271)) else (none))) = some r:=by first|(rw [hy268];with_reducible exact H)|(have H2_:=(Option.bind_some _ _).symm.trans H;rw [hy268];with_reducible exact H2_)|(have H2_:=(Option.bind_some _ _).symm.trans H;with_reducible exact H2_)|with_reducible exact H|(rw [hy268];exact H)|exact H
      have Ny268:=Aside0.mk hy268
      clear hy268
      have c15b0:=eq_true (of_decide_eq_true (by first|(with_reducible assumption)|assumption) : 0 ≤ x3_1)
      have c16b0:=eq_true (of_decide_eq_true (by first|(with_reducible assumption)|assumption) : x3_1 ≤ (l0.length : Int))
      obtain ⟨y271,hy271⟩ : ∃ y_ : List (S30),y_ = (l0.take (x3_1 : Int).toNat):=⟨_,rfl⟩
      replace H : (if y268.length + y271.length < 8796093022208 then (some (y268 ++ y271)) else (none)) = some r:=by first|(rw [hy271];with_reducible exact H)|(have H2_:=(Option.bind_some _ _).symm.trans H;rw [hy271];with_reducible exact H2_)|(have H2_:=(Option.bind_some _ _).symm.trans H;with_reducible exact H2_)|with_reducible exact H|(rw [hy271];exact H)|exact H
      have Ny271:=Aside0.mk hy271
      clear hy271
      by_cases c17 : y268.length + y271.length < 8796093022208
      ·
       rw [if_pos c17] at H
       have LMc17:=Aside0.mk c17
       clear c17
       obtain ⟨y275,hy275⟩ : ∃ y_ : List (S30),y_ = (y268 ++ y271):=⟨_,rfl⟩
       replace H : (some y275) = some r:=by first|(rw [hy275];with_reducible exact H)|(have H2_:=(Option.bind_some _ _).symm.trans H;rw [hy275];with_reducible exact H2_)|(have H2_:=(Option.bind_some _ _).symm.trans H;with_reducible exact H2_)|with_reducible exact H|(rw [hy275];exact H)|exact H
       have Ny275:=Aside0.mk hy275
       clear hy275
       obtain rfl:=Option.some.inj H
       have q18 : (x3_1 : Int) ≤ ((l0.length : Int) : Int):=of_decide_eq_true (by first|(with_reducible assumption)|assumption)
       obtain ⟨i018,hi018,_,hsz18,_⟩:=info_parts info30
       have hroom18 : l0.length ≤ c0:=HC0.out
       have hC18 : Kd.C k30 _ A0 l0.length l0:=HR0.out
       have q018 : (0 : Int) ≤ (x3_1 : Int):=of_decide_eq_true (by first|(with_reducible assumption)|assumption)
       have hcut18:=cut_from (P:=Try.prog) 22 30 .i64 Try.underlying22 hi018 2 hsz18 A0 l0.length c0 x3_1 q018 q18
       have hr18:=Kd.C_drop (m:=(x3_1 : Int).toNat) (c:=c0) hC18 (by omega) hroom18
       obtain ⟨A18,hA18⟩ : ∃ A1,A1 = (if c0 = (x3_1 : Int).toNat then A0 else (A0 : Option Addr).map (·.add ((x3_1 : Int).toNat * 2))):=⟨_,rfl⟩
       obtain ⟨c18,hc18⟩ : ∃ c1,c1 = c0 - (x3_1 : Int).toNat:=⟨_,rfl⟩
       have hy18 : y264.length = l0.length - (x3_1 : Int).toNat:=(by rw [Ny264.out,List.length_drop] <;> omega)
       rw [show (l0).drop (x3_1 : Int).toNat = y264 from Ny264.out.symm] at hr18
       replace hr18 : Kd.C k30 _ A18 y264.length y264:=(by rw [hA18];exact hr18)
       rw [← hy18,← hA18,← hc18] at hcut18
       have HR267:=Aside0.mk hr18
       have HC267:=Aside0.mk (show y264.length ≤ c18 from by rw [hy18,hc18];exact Nat.sub_le_sub_right hroom18 _)
       clear hr18 hC18 hroom18 hi018 hsz18 hc18
       have KY18:=Aside0.mk hy18
       have KA18:=Aside0.mk hA18
       clear hy18 hA18
       replace q18:=eq_true q18
       go_wp2_with (first|((with_reducible refine gate_builtin (b:=.append) (xs:=#[.tmp 22,.tmp 25]) rfl ?_);at_builtin;refine Kd.R_append_rows k30 (w0:=w) w.heap.size rfl (.tmp 22) (.tmp 25) 22 30 (.agg #[(.int .i64 0),(.int .i64 0)]) 16 rfl Try.underlying22 info30 rfl (by decide) (by omega) (.slice none 0 0) ([] : List (S30)) y264 _ _ _ (fun _=>True) (fun _=>False) rfl rfl ?aO ?aR (fun _ _ h=>h) (fun _ h=>h.elim) ?aF ?aB ?aS ?aL ?_;(case aR=>repeat (first|exact (Kd.C_below HR267.out HB.out)|(with_reducible refine Kd.C_alloc ?_ _)|(with_reducible refine Kd.C_drewN ?_ _)|(with_reducible refine Kd.C_drew ?_)));(case aB=>exact (by repeat (first|(with_reducible first|exact HB.out|apply ba_|apply bn_|apply bd_)|exact HB.out)));(case aF=>exact (fun _ _=>trivial));(case aO=>exact ((Kd.R_nil _ _ _ _ (fun _=>True))));(case aS=>exact (below_size (by repeat (first|(with_reducible first|exact HB.out|apply ba_|apply bn_|apply bd_)|exact HB.out))));(case aL=>have:=LMc14.out;omega);intro v269 w19 ho hb hg hat;rw [← Ny268.out] at ho;have n0_:=Aside0.mk (hb);have n1_:=Aside0.mk (ho);clear HB;have HB:=n0_;have HO270:=n1_;clear n0_ n1_;clear ho hb hg hat;have q20 : (x3_1 : Int) ≤ ((l0.length : Int) : Int):=of_decide_eq_true (by first|(with_reducible assumption)|assumption);obtain ⟨i020,hi020,_,hsz20,_⟩:=info_parts info30;have hroom20 : l0.length ≤ c0:=HC0.out;have hC20 : Kd.C k30 _ A0 l0.length l0:=HR0.out;have hcut20:=cut_to (P:=Try.prog) 22 30 .i64 Try.underlying22 hi020 A0 l0.length c0 x3_1 (of_decide_eq_true (by first|(with_reducible assumption)|assumption)) q20 hroom20;have hr20:=Kd.C_take (m:=(x3_1 : Int).toNat) hC20 (by omega);have hy20 : y271.length = (x3_1 : Int).toNat:=(by rw [Ny271.out,List.length_take];omega);rw [← Ny271.out] at hr20;rw [← hy20] at hcut20;have HR274:=Aside0.mk hr20;have HC274:=Aside0.mk (show y271.length ≤ c0 from by omega);clear hr20 hC20 hroom20 hi020 hsz20;have KY20:=Aside0.mk hy20;clear hy20;replace q20:=eq_true q20)|((with_reducible refine gate_builtin (b:=.append) (xs:=#[.tmp 27,.tmp 30]) rfl ?_);at_builtin;refine Kd.R_append_rows k30 (w0:=w) w.heap.size rfl (.tmp 27) (.tmp 30) 22 30 (.agg #[(.int .i64 0),(.int .i64 0)]) 16 rfl Try.underlying22 info30 rfl (by decide) (by omega) v269 y268 y271 _ _ _ (fun _=>True) (fun _=>False) rfl rfl ?aO ?aR (fun _ _ h=>h) (fun _ h=>h.elim) ?aF ?aB ?aS ?aL ?_;(case aR=>repeat (first|exact (Kd.C_below HR274.out HB.out)|(with_reducible refine Kd.C_alloc ?_ _)|(with_reducible refine Kd.C_drewN ?_ _)|(with_reducible refine Kd.C_drew ?_)));(case aB=>exact (by repeat (first|(with_reducible first|exact HB.out|apply ba_|apply bn_|apply bd_)|exact HB.out)));(case aF=>exact (fun _ _=>trivial));(case aO=>exact (by (with_reducible repeat (first|apply ra_|apply rn_|apply rd_));exact HO270.out));(case aS=>exact (below_size (by repeat (first|(with_reducible first|exact HB.out|apply ba_|apply bn_|apply bd_)|exact HB.out))));(case aL=>have:=LMc17.out;omega);intro v276 w21 ho hb hg hat;rw [← Ny275.out] at ho;have n0_:=Aside0.mk (hb);have n1_:=Aside0.mk (ho);clear HB;clear HO270;have HB:=n0_;have HO277:=n1_;clear n0_ n1_;clear ho hb hg hat))
       go_ret
       exact ⟨_,by first|rfl|(simp [errW_none,errW_some] <;> rfl)|(simp [*,errW_none,errW_some] <;> rfl),by (with_reducible repeat (first|apply ra_|apply rn_|apply rd_));exact HO277.out,by repeat (first|(with_reducible first|exact HB.out|apply ba_|apply bn_|apply bd_)|exact HB.out)⟩
      rw [if_neg c17] at H
      exact absurd H (by simp)
     rw [if_neg c14] at H
     exact absurd H (by simp)
    rw [if_neg c13] at H
    exact absurd H (by simp)
   rw [if_neg c12] at H
   exact absurd H (by simp)

/-! ### garmentref14_distance: function 44 -/
def garmentref14_distance.f (a0_0 : Int) (a0_1 : Int) (a1_0 : Int) (a1_1 : Int) : Option (Int):=some (wrap64 ((mx (wrap64 (a0_0 - a1_0)) (wrap64 (a1_0 - a0_0))) + (mx (wrap64 (a0_1 - a1_1)) (wrap64 (a1_1 - a0_1)))))
set_option maxHeartbeats 8000000 in
set_option maxRecDepth 100000 in
theorem garmentref14_distance.calls (a0_0 : Int) (a0_1 : Int) (a1_0 : Int) (a1_1 : Int) (r : Int) (w : World) (h : garmentref14_distance.f a0_0 a0_1 a1_0 a1_1 = some r) :
  Calls Try.prog 44 #[.agg #[.int .i64 a0_0,.int .i64 a0_1],.agg #[.int .i64 a1_0,.int .i64 a1_1]] w fun e w'=>e = .returned (.int .i64 r)∧Below w.heap.size w w':=by
 have hu30:=Try.underlying30
 have HB:=Aside0.mk (Below.refl w.heap.size w)
 have H : (some (wrap64 ((mx (wrap64 (a0_0 - a1_0)) (wrap64 (a1_0 - a0_0))) + (mx (wrap64 (a0_1 - a1_1)) (wrap64 (a1_1 - a0_1)))))) = some r:=h
 clear h
 obtain ⟨ji3,hji3⟩ : ∃ j_ : Int,(mx (wrap64 (a0_0 - a1_0)) (wrap64 (a1_0 - a0_0))) = j_:=⟨_,rfl⟩
 replace H : (some (wrap64 ((ji3) + (mx (wrap64 (a0_1 - a1_1)) (wrap64 (a1_1 - a0_1)))))) = some r:=by first|(rw [hji3] at H;exact H)|(simp only [hji3] at H ⊢;exact H)
 have hji3_ : (if (wrap64 (a0_0 - a1_0)) < (wrap64 (a1_0 - a0_0)) then (wrap64 (a1_0 - a0_0)) else (wrap64 (a0_0 - a1_0))) = ji3:=hji3
 obtain ⟨ji4,hji4⟩ : ∃ j_ : Int,(mx (wrap64 (a0_1 - a1_1)) (wrap64 (a1_1 - a0_1))) = j_:=⟨_,rfl⟩
 replace H : (some (wrap64 ((ji3) + (ji4)))) = some r:=by first|(rw [hji4] at H;exact H)|(simp only [hji4] at H ⊢;exact H)
 have hji4_ : (if (wrap64 (a0_1 - a1_1)) < (wrap64 (a1_1 - a0_1)) then (wrap64 (a1_1 - a0_1)) else (wrap64 (a0_1 - a1_1))) = ji4:=hji4
 obtain rfl:=Option.some.inj H
 go_enter Try.func44,Try.ntmps44
 go_wp2_with (first|((with_reducible refine gate_dst (N:=2) rfl ?_);refine box_event ?hg (N:=2) ?hd (cs:=#[.int .i64 a0_0,.int .i64 a0_1]) (t:=30) ?hr ?_;(case hd=>rfl);(case hg=>rfl);(case hr=>first|(go_simp;done)|(go_simp;rfl));intro gb278 hg w5 hbox hb;have n0_:=Aside0.mk (below_step (by repeat (first|(with_reducible first|exact HB.out|apply ba_|apply bn_|apply bd_)|exact HB.out)) hb);have n1_:=Aside0.mk (hbox);have n2_:=Aside0.mk ((by rw [hg];exact (below_size (by repeat (first|(with_reducible first|exact HB.out|apply ba_|apply bn_|apply bd_)|exact HB.out))) : w.heap.size ≤ gb278));have n3_:=Aside0.mk ((by rw [hg];exact (below_size (by repeat (first|(with_reducible first|exact HB.out|apply ba_|apply bn_|apply bd_)|exact HB.out))) : w.heap.size ≤ gb278));clear HB;have HB:=n0_;have BK278:=n1_;have GW278:=n2_;have GE278:=n3_;clear n0_ n1_ n2_ n3_;clear hb hbox hg)|((with_reducible refine gate_dst (N:=3) rfl ?_);refine box_event ?hg (N:=3) ?hd (cs:=#[.int .i64 a1_0,.int .i64 a1_1]) (t:=30) ?hr ?_;(case hd=>rfl);(case hg=>rfl);(case hr=>first|(go_simp;done)|(go_simp;rfl));intro gb279 hg w6 hbox hb;have n0_:=Aside0.mk (blk_below (g:=gb278) (o:=.cells #[.int .i64 a0_0,.int .i64 a0_1] 30 (0,0)) (by (with_reducible repeat (first|refine kn_ ?_ _|refine kd_ ?_|refine ka_ ?_ _));exact BK278.out) hb);have n1_:=Aside0.mk (below_step (by repeat (first|(with_reducible first|exact HB.out|apply ba_|apply bn_|apply bd_|refine below_set ?_ GE278.out)|exact HB.out)) hb);have n2_:=Aside0.mk (hbox);have n3_:=Aside0.mk ((by rw [hg];exact (below_size (by repeat (first|(with_reducible first|exact HB.out|apply ba_|apply bn_|apply bd_|refine below_set ?_ GE278.out)|exact HB.out))) : w.heap.size ≤ gb279));have n4_:=Aside0.mk ((by rw [hg];exact (below_size (by repeat (first|(with_reducible first|exact HB.out|apply ba_|apply bn_|apply bd_|refine below_set ?_ GE278.out)|exact HB.out))) : w.heap.size ≤ gb279));have n5_:=Aside0.mk ((by rw [hg];exact Nat.ne_of_lt (blk_lt (g:=gb278) (o:=.cells #[.int .i64 a0_0,.int .i64 a0_1] 30 (0,0)) (by (with_reducible repeat (first|refine kn_ ?_ _|refine kd_ ?_|refine ka_ ?_ _));exact BK278.out)) : gb278 ≠ gb279));have n6_:=Aside0.mk ((by rw [hg];exact Nat.ne_of_gt (blk_lt (g:=gb278) (o:=.cells #[.int .i64 a0_0,.int .i64 a0_1] 30 (0,0)) (by (with_reducible repeat (first|refine kn_ ?_ _|refine kd_ ?_|refine ka_ ?_ _));exact BK278.out)) : gb279 ≠ gb278));clear BK278;clear HB;have BK278:=n0_;have HB:=n1_;have BK279:=n2_;have GW279:=n3_;have GE279:=n4_;have NB278_279:=n5_;have NB279_278:=n6_;clear n0_ n1_ n2_ n3_ n4_ n5_ n6_;clear hb hbox hg;have hnb7:=NB278_279.out;have hnc7:=NB279_278.out;have hcz8_0 : w6.cell? ⟨gb278,0,none⟩ = some (.int .i64 a0_0):=(blk_cell BK278.out 0).trans rfl;have hcz8_1 : w6.cell? ⟨gb278,1,none⟩ = some (.int .i64 a0_1):=(blk_cell BK278.out 1).trans rfl;have hfz8_0:=blk_frozen BK278.out 0;have hfz8_1:=blk_frozen BK278.out 1;have hcz9_0 : w6.cell? ⟨gb279,0,none⟩ = some (.int .i64 a1_0):=(blk_cell BK279.out 0).trans rfl;have hcz9_1 : w6.cell? ⟨gb279,1,none⟩ = some (.int .i64 a1_1):=(blk_cell BK279.out 1).trans rfl;have hfz9_0:=blk_frozen BK279.out 0;have hfz9_1:=blk_frozen BK279.out 1))
 go_ret
 exact ⟨by first|rfl|(simp [errW_none,errW_some] <;> rfl)|(simp only [← hji3,← hji4];first|rfl|(simp [errW_none,errW_some] <;> rfl))|(simp [*,errW_none,errW_some] <;> rfl),by repeat (first|(with_reducible first|exact HB.out|apply ba_|apply bn_|apply bd_|refine below_set ?_ GE278.out|refine below_set ?_ GE279.out)|exact HB.out)⟩

end Go.Proofs.Ytlnigbhimdphoaa.C
