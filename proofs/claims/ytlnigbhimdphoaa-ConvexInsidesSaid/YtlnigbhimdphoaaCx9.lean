-- PRINTED by print.py (a twelfth state) out of the translation. Not trusted: Lean checks it.
import Derived.Test.YtlnigbhimdphoaaCx0
import Derived.Test.YtlnigbhimdphoaaCx2
import Derived.Test.YtlnigbhimdphoaaCx4
import Derived.Test.YtlnigbhimdphoaaCx8
namespace Go.Proofs.Ytlnigbhimdphoaa.C
open Go.RowKit Go.Proofs.YtlnigbhimdphoaaW.PrintWords Go.Proofs.YtlnigbhimdphoaaW.PrintLast Go.Proofs.YtlnigbhimdphoaaW.PrintMore
attribute [local go_sem] max2_int min2_int max_two min_two max_three min_three max_four min_four Go.Proofs.Ytlnigbhimdphoaa.Aid.isSome_setCell   -- for this text's walks alone
set_option linter.unusedVariables false
set_option linter.unusedSimpArgs false

/-! ### convex_Sum: function 22 -/
mutual
def convex_Sum.l0 : Nat → List (S30) → List (S30) → List (S30) → Int → Int → Int → Int → Option ((List (S30)) × Int)
 | 0,_,_,_,_,_,_,_=>none
 | k + 1,x6,x8,x9,x11,x12,x193000,x193001=>if x11 < (x6.length : Int) then (convex_Sum.j1 k x6 x8 x9 x11 x12 true x193000 x193001) else (convex_Sum.j1 k x6 x8 x9 x11 x12 (decide (x12 < (x8.length : Int))) x193000 x193001)
def convex_Sum.j1 : Nat → List (S30) → List (S30) → List (S30) → Int → Int → Bool → Int → Int → Option ((List (S30)) × Int)
 | 0,_,_,_,_,_,_,_,_=>none
 | k + 1,x6,x8,x9,x11,x12,x64,x193000,x193001=>if x64 = true then (if x9.length < 8796093022208 then ((some (x9 ++ [(⟨x193000,x193001⟩ : S30)] : List (S30))).bind fun y193=>((convex_way.f x6 x11).bind fun bt196=>((convex_way.f x8 x12).bind fun bt198=>(if x12 = (x8.length : Int) then (convex_Sum.j2 k x6 x8 y193 x11 x12 (wrap64 ((wrap64 (bt196.1 * bt198.2)) - (wrap64 (bt196.2 * bt198.1)))) true x193000 x193001 bt196.1 bt196.2 bt198.1 bt198.2) else (if x11 < (x6.length : Int) then (convex_Sum.j2 k x6 x8 y193 x11 x12 (wrap64 ((wrap64 (bt196.1 * bt198.2)) - (wrap64 (bt196.2 * bt198.1)))) (decide ((wrap64 ((wrap64 (bt196.1 * bt198.2)) - (wrap64 (bt196.2 * bt198.1)))) ≥ 0)) x193000 x193001 bt196.1 bt196.2 bt198.1 bt198.2) else (convex_Sum.j2 k x6 x8 y193 x11 x12 (wrap64 ((wrap64 (bt196.1 * bt198.2)) - (wrap64 (bt196.2 * bt198.1)))) false x193000 x193001 bt196.1 bt196.2 bt198.1 bt198.2)))))) else (none)) else (convex_Sum.l1 k x9 x9 (x9.length : Int) 0)
def convex_Sum.j2 : Nat → List (S30) → List (S30) → List (S30) → Int → Int → Int → Bool → Int → Int → Int → Int → Int → Int → Option ((List (S30)) × Int)
 | 0,_,_,_,_,_,_,_,_,_,_,_,_,_=>none
 | k + 1,x6,x8,x9,x11,x12,x15,x16,x193000,x193001,x201000,x201001,x202000,x202001=>if x11 = (x6.length : Int) then (convex_Sum.j3 k x6 x8 x9 x11 x12 x16 true x193000 x193001 x201000 x201001 x202000 x202001) else (if x12 < (x8.length : Int) then (convex_Sum.j3 k x6 x8 x9 x11 x12 x16 (decide (x15 ≤ 0)) x193000 x193001 x201000 x201001 x202000 x202001) else (convex_Sum.j3 k x6 x8 x9 x11 x12 x16 false x193000 x193001 x201000 x201001 x202000 x202001))
def convex_Sum.j3 : Nat → List (S30) → List (S30) → List (S30) → Int → Int → Bool → Bool → Int → Int → Int → Int → Int → Int → Option ((List (S30)) × Int)
 | 0,_,_,_,_,_,_,_,_,_,_,_,_,_=>none
 | k + 1,x6,x8,x9,x11,x12,x16,x17,x193000,x193001,x201000,x201001,x202000,x202001=>if x16 = true then (if x17 = true then (convex_Sum.l0 k x6 x8 x9 (wrap64 (x11 + 1)) (wrap64 (x12 + 1)) (wrap64 ((wrap64 (x193000 + x201000)) + x202000)) (wrap64 ((wrap64 (x193001 + x201001)) + x202001))) else (convex_Sum.l0 k x6 x8 x9 (wrap64 (x11 + 1)) x12 (wrap64 (x193000 + x201000)) (wrap64 (x193001 + x201001)))) else (if x17 = true then (convex_Sum.l0 k x6 x8 x9 x11 (wrap64 (x12 + 1)) (wrap64 (x193000 + x202000)) (wrap64 (x193001 + x202001))) else (convex_Sum.l0 k x6 x8 x9 x11 x12 x193000 x193001))
def convex_Sum.l1 : Nat → List (S30) → List (S30) → Int → Int → Option ((List (S30)) × Int)
 | 0,_,_,_,_=>none
 | k + 1,x9,x144,x145,x146=>if x146 < x145 then (if 0 ≤ x146 then (if x146 < (x144.length : Int) then ((convex_near.f ((rd_T30 x144 x146).f0) ((rd_T30 x144 x146).f1)).bind fun t204=>(if t204 = true then (convex_Sum.l1 k x9 x144 x145 (wrap64 (x146 + 1))) else (some (([] : List (S30)),3)))) else (none)) else (none)) else (if (x9.length : Int) > 160 then (some (([] : List (S30)),5)) else (some (x9,0)))
end
def convex_Sum.f (k : Nat) (l0 : List (S30)) (l1 : List (S30)) : Option ((List (S30)) × Int):=(convex_Hull.f k l0).bind fun bt180=>(if bt180.2 = 0 then ((convex_Hull.f k l1).bind fun bt184=>(if bt184.2 = 0 then (if 0 < (bt180.1.length : Int) then (if 0 < (bt184.1.length : Int) then (convex_Sum.l0 k bt180.1 bt184.1 ([] : List (S30)) 0 0 (wrap64 (((rd_T30 bt180.1 0).f0) + ((rd_T30 bt184.1 0).f0))) (wrap64 (((rd_T30 bt180.1 0).f1) + ((rd_T30 bt184.1 0).f1)))) else (none)) else (none)) else (some (([] : List (S30)),bt184.2)))) else (some (([] : List (S30)),bt180.2)))
theorem convex_Sum.mono_l : ∀ k,(∀ y0 y1 y2 y3 y4 y5 y6,LeO (convex_Sum.l0 k y0 y1 y2 y3 y4 y5 y6) (convex_Sum.l0 (k + 1) y0 y1 y2 y3 y4 y5 y6))∧(∀ y0 y1 y2 y3 y4 y5 y6 y7,LeO (convex_Sum.j1 k y0 y1 y2 y3 y4 y5 y6 y7) (convex_Sum.j1 (k + 1) y0 y1 y2 y3 y4 y5 y6 y7))∧(∀ y0 y1 y2 y3 y4 y5 y6 y7 y8 y9 y10 y11 y12,LeO (convex_Sum.j2 k y0 y1 y2 y3 y4 y5 y6 y7 y8 y9 y10 y11 y12) (convex_Sum.j2 (k + 1) y0 y1 y2 y3 y4 y5 y6 y7 y8 y9 y10 y11 y12))∧(∀ y0 y1 y2 y3 y4 y5 y6 y7 y8 y9 y10 y11 y12,LeO (convex_Sum.j3 k y0 y1 y2 y3 y4 y5 y6 y7 y8 y9 y10 y11 y12) (convex_Sum.j3 (k + 1) y0 y1 y2 y3 y4 y5 y6 y7 y8 y9 y10 y11 y12))∧(∀ y0 y1 y2 y3,LeO (convex_Sum.l1 k y0 y1 y2 y3) (convex_Sum.l1 (k + 1) y0 y1 y2 y3))
 | 0=>⟨fun _ _ _ _ _ _ _ r h=>by simp [convex_Sum.l0] at h,fun _ _ _ _ _ _ _ _ r h=>by simp [convex_Sum.j1] at h,fun _ _ _ _ _ _ _ _ _ _ _ _ _ r h=>by simp [convex_Sum.j2] at h,fun _ _ _ _ _ _ _ _ _ _ _ _ _ r h=>by simp [convex_Sum.j3] at h,fun _ _ _ _ r h=>by simp [convex_Sum.l1] at h⟩
 | k + 1=>by
  obtain ⟨ih0,ih1,ih2,ih3,ih4⟩:=convex_Sum.mono_l k
  refine ⟨?_,?_,?_,?_,?_⟩
  ·
   intro y0 y1 y2 y3 y4 y5 y6
   unfold convex_Sum.l0
   repeat' first
   | (with_reducible exact ih0 _ _ _ _ _ _ _)
   | (with_reducible exact ih1 _ _ _ _ _ _ _ _)
   | (with_reducible exact ih2 _ _ _ _ _ _ _ _ _ _ _ _ _)
   | (with_reducible exact ih3 _ _ _ _ _ _ _ _ _ _ _ _ _)
   | (with_reducible exact ih4 _ _ _ _)
   | (with_reducible exact convex_Hull.mono _ _)
   | (with_reducible exact LeO.refl _)
   | (with_reducible exact LeO.none _)
   | (with_reducible refine LeO.ite ?_ ?_)
   | (with_reducible refine LeO.bind ?_ (fun _=>?_))
   | exact ih0 _ _ _ _ _ _ _
   | exact ih1 _ _ _ _ _ _ _ _
   | exact ih2 _ _ _ _ _ _ _ _ _ _ _ _ _
   | exact ih3 _ _ _ _ _ _ _ _ _ _ _ _ _
   | exact ih4 _ _ _ _
   | exact convex_Hull.mono _ _
   | exact LeO.none _
   | refine LeO.ite ?_ ?_
   | refine LeO.bind ?_ (fun _=>?_)
  ·
   intro y0 y1 y2 y3 y4 y5 y6 y7
   unfold convex_Sum.j1
   repeat' first
   | (with_reducible exact ih0 _ _ _ _ _ _ _)
   | (with_reducible exact ih1 _ _ _ _ _ _ _ _)
   | (with_reducible exact ih2 _ _ _ _ _ _ _ _ _ _ _ _ _)
   | (with_reducible exact ih3 _ _ _ _ _ _ _ _ _ _ _ _ _)
   | (with_reducible exact ih4 _ _ _ _)
   | (with_reducible exact convex_Hull.mono _ _)
   | (with_reducible exact LeO.refl _)
   | (with_reducible exact LeO.none _)
   | (with_reducible refine LeO.ite ?_ ?_)
   | (with_reducible refine LeO.bind ?_ (fun _=>?_))
   | exact ih0 _ _ _ _ _ _ _
   | exact ih1 _ _ _ _ _ _ _ _
   | exact ih2 _ _ _ _ _ _ _ _ _ _ _ _ _
   | exact ih3 _ _ _ _ _ _ _ _ _ _ _ _ _
   | exact ih4 _ _ _ _
   | exact convex_Hull.mono _ _
   | exact LeO.none _
   | refine LeO.ite ?_ ?_
   | refine LeO.bind ?_ (fun _=>?_)
  ·
   intro y0 y1 y2 y3 y4 y5 y6 y7 y8 y9 y10 y11 y12
   unfold convex_Sum.j2
   repeat' first
   | (with_reducible exact ih0 _ _ _ _ _ _ _)
   | (with_reducible exact ih1 _ _ _ _ _ _ _ _)
   | (with_reducible exact ih2 _ _ _ _ _ _ _ _ _ _ _ _ _)
   | (with_reducible exact ih3 _ _ _ _ _ _ _ _ _ _ _ _ _)
   | (with_reducible exact ih4 _ _ _ _)
   | (with_reducible exact convex_Hull.mono _ _)
   | (with_reducible exact LeO.refl _)
   | (with_reducible exact LeO.none _)
   | (with_reducible refine LeO.ite ?_ ?_)
   | (with_reducible refine LeO.bind ?_ (fun _=>?_))
   | exact ih0 _ _ _ _ _ _ _
   | exact ih1 _ _ _ _ _ _ _ _
   | exact ih2 _ _ _ _ _ _ _ _ _ _ _ _ _
   | exact ih3 _ _ _ _ _ _ _ _ _ _ _ _ _
   | exact ih4 _ _ _ _
   | exact convex_Hull.mono _ _
   | exact LeO.none _
   | refine LeO.ite ?_ ?_
   | refine LeO.bind ?_ (fun _=>?_)
  ·
   intro y0 y1 y2 y3 y4 y5 y6 y7 y8 y9 y10 y11 y12
   unfold convex_Sum.j3
   repeat' first
   | (with_reducible exact ih0 _ _ _ _ _ _ _)
   | (with_reducible exact ih1 _ _ _ _ _ _ _ _)
   | (with_reducible exact ih2 _ _ _ _ _ _ _ _ _ _ _ _ _)
   | (with_reducible exact ih3 _ _ _ _ _ _ _ _ _ _ _ _ _)
   | (with_reducible exact ih4 _ _ _ _)
   | (with_reducible exact convex_Hull.mono _ _)
   | (with_reducible exact LeO.refl _)
   | (with_reducible exact LeO.none _)
   | (with_reducible refine LeO.ite ?_ ?_)
   | (with_reducible refine LeO.bind ?_ (fun _=>?_))
   | exact ih0 _ _ _ _ _ _ _
   | exact ih1 _ _ _ _ _ _ _ _
   | exact ih2 _ _ _ _ _ _ _ _ _ _ _ _ _
   | exact ih3 _ _ _ _ _ _ _ _ _ _ _ _ _
   | exact ih4 _ _ _ _
   | exact convex_Hull.mono _ _
   | exact LeO.none _
   | refine LeO.ite ?_ ?_
   | refine LeO.bind ?_ (fun _=>?_)
  intro y0 y1 y2 y3
  unfold convex_Sum.l1
  repeat' first
  | (with_reducible exact ih0 _ _ _ _ _ _ _)
  | (with_reducible exact ih1 _ _ _ _ _ _ _ _)
  | (with_reducible exact ih2 _ _ _ _ _ _ _ _ _ _ _ _ _)
  | (with_reducible exact ih3 _ _ _ _ _ _ _ _ _ _ _ _ _)
  | (with_reducible exact ih4 _ _ _ _)
  | (with_reducible exact convex_Hull.mono _ _)
  | (with_reducible exact LeO.refl _)
  | (with_reducible exact LeO.none _)
  | (with_reducible refine LeO.ite ?_ ?_)
  | (with_reducible refine LeO.bind ?_ (fun _=>?_))
  | exact ih0 _ _ _ _ _ _ _
  | exact ih1 _ _ _ _ _ _ _ _
  | exact ih2 _ _ _ _ _ _ _ _ _ _ _ _ _
  | exact ih3 _ _ _ _ _ _ _ _ _ _ _ _ _
  | exact ih4 _ _ _ _
  | exact convex_Hull.mono _ _
  | exact LeO.none _
  | refine LeO.ite ?_ ?_
  | refine LeO.bind ?_ (fun _=>?_)
theorem convex_Sum.mono : ∀ a0 a1 k,LeO (convex_Sum.f k a0 a1) (convex_Sum.f (k + 1) a0 a1):=by
 intro a0 a1 k
 obtain ⟨ih0,ih1,ih2,ih3,ih4⟩:=convex_Sum.mono_l k
 unfold convex_Sum.f
 repeat' first
   | (with_reducible exact ih0 _ _ _ _ _ _ _)
   | (with_reducible exact ih1 _ _ _ _ _ _ _ _)
   | (with_reducible exact ih2 _ _ _ _ _ _ _ _ _ _ _ _ _)
   | (with_reducible exact ih3 _ _ _ _ _ _ _ _ _ _ _ _ _)
   | (with_reducible exact ih4 _ _ _ _)
   | (with_reducible exact convex_Hull.mono _ _)
   | (with_reducible exact LeO.refl _)
   | (with_reducible exact LeO.none _)
   | (with_reducible refine LeO.ite ?_ ?_)
   | (with_reducible refine LeO.bind ?_ (fun _=>?_))
   | exact ih0 _ _ _ _ _ _ _
   | exact ih1 _ _ _ _ _ _ _ _
   | exact ih2 _ _ _ _ _ _ _ _ _ _ _ _ _
   | exact ih3 _ _ _ _ _ _ _ _ _ _ _ _ _
   | exact ih4 _ _ _ _
   | exact convex_Hull.mono _ _
   | exact LeO.none _
   | refine LeO.ite ?_ ?_
   | refine LeO.bind ?_ (fun _=>?_)
def convex_Sum.T8 : Bool × List (List Nat × List Nat):=(true,[([],[]),([0],[0]),([1],[1]),([2],[2]),([],[]),([4],[4]),([5],[5]),([6],[6]),([3,7],[3,7]),([],[]),([9],[9]),([10],[10]),([11],[11]),([],[]),([13],[13]),([14],[14]),([15],[15]),([12,16],[12,16]),([8,17],[8,17]),([],[]),([19,18,0,1,2,3,4,5,6,7,8,9,10,11,12,13,14,15,16,17,18,19],[18,19])])
def convex_Sum.B8 : List Nat:=[0,1,3,7,0,16,48,112,255,0,512,1536,3584,0,8192,24576,57344,130560,262143,0,1048575]
theorem convex_Sum.tab8 : rtab .any (opsOf Try.f22 8) = convex_Sum.T8:=by kernel_rfl
theorem convex_Sum.bits8 : waitsOk convex_Sum.T8.2 convex_Sum.B8 = true:=by kernel_rfl
def convex_Sum.T17 : Bool × List (List Nat × List Nat):=(true,[([],[]),([0],[0]),([],[]),([2],[2]),([1,3],[1,3]),([],[]),([5],[5]),([],[]),([7],[7]),([6,8],[6,8]),([0,1,2,3,4,5,6],[]),([10,4,0,1,2,3,4,5,6],[4,10]),([0,1,2,3,4,5,6,7,8,9,10,11],[]),([12,9,11,0,1,2,3,4,5,6,7,8,9,10,11],[9,12])])
def convex_Sum.B17 : List Nat:=[0,1,0,4,15,0,32,0,128,480,127,1151,4095,8191]
theorem convex_Sum.tab17 : rtab .any (opsOf Try.f22 17) = convex_Sum.T17:=by kernel_rfl
theorem convex_Sum.bits17 : waitsOk convex_Sum.T17.2 convex_Sum.B17 = true:=by kernel_rfl
def convex_Sum.T20 : Bool × List (List Nat × List Nat):=(true,[([],[]),([0],[0]),([],[]),([2],[2]),([1,3],[1,3]),([],[]),([5],[5]),([],[]),([7],[7]),([6,8],[6,8]),([0,1,2,3,4,5,6],[]),([10,4,0,1,2,3,4,5,6],[4,10]),([0,1,2,3,4,5,6,7,8,9,10,11],[]),([12,9,11,0,1,2,3,4,5,6,7,8,9,10,11],[9,12])])
def convex_Sum.B20 : List Nat:=[0,1,0,4,15,0,32,0,128,480,127,1151,4095,8191]
theorem convex_Sum.tab20 : rtab .any (opsOf Try.f22 20) = convex_Sum.T20:=by kernel_rfl
theorem convex_Sum.bits20 : waitsOk convex_Sum.T20.2 convex_Sum.B20 = true:=by kernel_rfl
set_option maxHeartbeats 8000000 in
set_option maxRecDepth 100000 in
theorem convex_Sum.calls (k : Nat) (A0 : Option Addr) (c0 : Nat) (l0 : List (S30)) (A1 : Option Addr) (c1 : Nat) (l1 : List (S30)) (r1 : List (S30)) (r2 : Int) (w : World) (hr0 : Kd.C k30 w A0 l0.length l0) (hc0 : l0.length ≤ c0) (hr1 : Kd.C k30 w A1 l1.length l1) (hc1 : l1.length ≤ c1) (h : convex_Sum.f k l0 l1 = some (r1,r2)) :
  Calls Try.prog 22 #[.slice A0 l0.length c0,.slice A1 l1.length c1] w fun e w'=>∃ v0_ : Value,e = .returned (.tuple #[v0_,.int .i64 r2])∧Kd.R k30 30 w' w.heap.size (fun _=>True) v0_ r1∧Below w.heap.size w w':=by
 have hu30:=Try.underlying30
 have HR0:=Aside0.mk hr0
 have HC0:=Aside0.mk hc0
 clear hr0 hc0
 have HR1:=Aside0.mk hr1
 have HC1:=Aside0.mk hc1
 clear hr1 hc1
 have HB:=Aside0.mk (Below.refl w.heap.size w)
 have H : ((convex_Hull.f k l0).bind fun bt180=>(if bt180.2 = 0 then ((convex_Hull.f k l1).bind fun bt184=>(if bt184.2 = 0 then (if 0 < (bt180.1.length : Int) then (if 0 < (bt184.1.length : Int) then (convex_Sum.l0 k bt180.1 bt184.1 ([] : List (S30)) 0 0 (wrap64 (((rd_T30 bt180.1 0).f0) + ((rd_T30 bt184.1 0).f0))) (wrap64 (((rd_T30 bt180.1 0).f1) + ((rd_T30 bt184.1 0).f1)))) else (none)) else (none)) else (some (([] : List (S30)),bt184.2)))) else (some (([] : List (S30)),bt180.2)))) = some (r1,r2):=h
 clear h
 replace H:=Option.bind_eq_some_iff.mp H
 obtain ⟨⟨t180,t181⟩,A30,H⟩:=H
 replace H : (if t181 = 0 then ((convex_Hull.f k l1).bind fun bt184=>(if bt184.2 = 0 then (if 0 < (t180.length : Int) then (if 0 < (bt184.1.length : Int) then (convex_Sum.l0 k t180 bt184.1 ([] : List (S30)) 0 0 (wrap64 (((rd_T30 t180 0).f0) + ((rd_T30 bt184.1 0).f0))) (wrap64 (((rd_T30 t180 0).f1) + ((rd_T30 bt184.1 0).f1)))) else (none)) else (none)) else (some (([] : List (S30)),bt184.2)))) else (some (([] : List (S30)),t181))) = some (r1,r2):=H
 have A3:=Aside0.mk A30
 clear A30
 by_cases c4 : t181 = 0
 ·
  rw [if_pos c4] at H
  have c4b0 : (t181 == 0) = true:=beq_iff_eq.mpr c4
  have c4b1 : (t181 != 0) = false:=bne_eq_false_iff_eq.mpr c4
  clear c4
  replace H:=Option.bind_eq_some_iff.mp H
  obtain ⟨⟨t184,t185⟩,A50,H⟩:=H
  replace H : (if t185 = 0 then (if 0 < (t180.length : Int) then (if 0 < (t184.length : Int) then (convex_Sum.l0 k t180 t184 ([] : List (S30)) 0 0 (wrap64 (((rd_T30 t180 0).f0) + ((rd_T30 t184 0).f0))) (wrap64 (((rd_T30 t180 0).f1) + ((rd_T30 t184 0).f1)))) else (none)) else (none)) else (some (([] : List (S30)),t185))) = some (r1,r2):=H
  have A5:=Aside0.mk A50
  clear A50
  by_cases c6 : t185 = 0
  ·
   rw [if_pos c6] at H
   have c6b0 : (t185 == 0) = true:=beq_iff_eq.mpr c6
   have c6b1 : (t185 != 0) = false:=bne_eq_false_iff_eq.mpr c6
   clear c6
   by_cases c7 : 0 < (t180.length : Int)
   ·
    rw [if_pos c7] at H
    have c7b0 : decide (0 < (t180.length : Int)) = true:=decide_eq_true c7
    have c7b1 : decide (0 < t180.length) = true:=decide_eq_true (by omega)
    clear c7
    by_cases c8 : 0 < (t184.length : Int)
    ·
     rw [if_pos c8] at H
     have c8b0 : decide (0 < (t184.length : Int)) = true:=decide_eq_true c8
     have c8b1 : decide (0 < t184.length) = true:=decide_eq_true (by omega)
     clear c8
     have H':=Aside0.mk H
     clear H
     go_enter Try.func22,Try.ntmps22
     try go_wp2_with (first|((with_reducible refine gate_callee (f:=11) rfl ?_);refine goesL_ (some 22) rfl rfl Try.func11 (by kernel_rfl) rfl #[.slice A0 l0.length c0] rfl (by (try simp only [List.map_toArray,List.map_cons,List.map_nil]);first|done|rfl|(simp only [List.length_drop,List.length_take];rfl)) ?_;(with_reducible refine (convex_Hull.calls k _ _ l0 t180 t181 _ ?side1 ?side2 A3.out).mono ?_);(case side1=>repeat (first|exact HR0.out|(with_reducible refine Kd.C_alloc ?_ _)|(with_reducible refine Kd.C_drewN ?_ _)|(with_reducible refine Kd.C_drew ?_)));(case side2=>exact HC0.out);rintro e w9 ⟨v182,rfl,ho0,hb⟩;refine ⟨_,rfl,?_⟩;have n0_:=Aside0.mk (Kd.R_lower ho0 (below_size (by repeat (first|(with_reducible first|exact HB.out|apply ba_|apply bn_|apply bd_)|exact HB.out))));have n1_:=Aside0.mk (below_step (by repeat (first|(with_reducible first|exact HB.out|apply ba_|apply bn_|apply bd_)|exact HB.out)) hb);clear HB;have HO183:=n0_;have HB:=n1_;clear n0_ n1_;(try clear hb);(try clear hb2);(try clear hk);(try clear hi);(try clear ho0))|((with_reducible refine gate_callee (f:=11) rfl ?_);refine goesL_ (some 30) rfl rfl Try.func11 (by kernel_rfl) rfl #[.slice A1 l1.length c1] rfl (by (try simp only [List.map_toArray,List.map_cons,List.map_nil]);first|done|rfl|(simp only [List.length_drop,List.length_take];rfl)) ?_;(with_reducible refine (convex_Hull.calls k _ _ l1 t184 t185 _ ?side1 ?side2 A5.out).mono ?_);(case side1=>repeat (first|exact (Kd.C_below HR1.out HB.out)|(with_reducible refine Kd.C_alloc ?_ _)|(with_reducible refine Kd.C_drewN ?_ _)|(with_reducible refine Kd.C_drew ?_)));(case side2=>exact HC1.out);rintro e w10 ⟨v186,rfl,ho0,hb⟩;refine ⟨_,rfl,?_⟩;have n0_:=Aside0.mk (Kd.R_elder' (by (with_reducible repeat (first|apply ra_|apply rn_|apply rd_));exact HO183.out) (Kd.R_base ho0) hb);have n1_:=Aside0.mk (Kd.R_lower (Kd.R_new' ho0 (Kd.R_lt (by (with_reducible repeat (first|apply ra_|apply rn_|apply rd_));exact HO183.out))) (below_size (by repeat (first|(with_reducible first|exact HB.out|apply ba_|apply bn_|apply bd_)|exact HB.out))));have n2_:=Aside0.mk (below_step (by repeat (first|(with_reducible first|exact HB.out|apply ba_|apply bn_|apply bd_)|exact HB.out)) hb);clear HO183;clear HB;have HO183:=n0_;have HO187:=n1_;have HB:=n2_;clear n0_ n1_ n2_;(try clear hb);(try clear hb2);(try clear hk);(try clear hi);(try clear ho0)))
     have n0_:=Aside0.mk (rd_ HO183.out)
     have n1_:=Aside0.mk (rd_ HO187.out)
     have n2_:=Aside0.mk (bd_ HB.out)
     clear HO183
     clear HO187
     clear HB
     have HO183:=n0_
     have HO187:=n1_
     have HB:=n2_
     clear n0_ n1_ n2_
     obtain ⟨Ao12,co12,eo12⟩:=Kd.R_slice HO183.out
     (first|subst eo12|(injection eo12 with f1_ f2_ f3_;have f4_:=f1_.symm;have f5_:=f3_.symm;clear f1_ f2_ f3_;subst f4_;subst f5_))
     have p188 : 0 ≤ (0 : Int):=(by omega)
     have q188 : 0 < (t180.length : Int):=of_decide_eq_true (by first|(with_reducible assumption)|assumption)
     obtain ⟨ad188,e188,hx188_0,hx188_1⟩:=at_T30 (Kd.R_reads' HO183.out).2.2 0 p188 q188
     cases e188
     have qi188 : (0 < t180.length) = True:=eq_true (by omega)
     (try rw [show ((0 : Int)).toNat = 0 from rfl] at hx188_0)
     (try rw [show 0 * 2 = 0 from rfl] at hx188_0)
     (try rw [Addr.add_zero'] at hx188_0)
     (try rw [show ((0 : Int)).toNat = 0 from rfl] at hx188_1)
     (try rw [show 0 * 2 = 0 from rfl] at hx188_1)
     (try rw [Addr.add_zero'] at hx188_1)
     replace p188:=eq_true p188
     replace q188:=eq_true q188
     obtain ⟨Ao13,co13,eo13⟩:=Kd.R_slice HO187.out
     (first|subst eo13|(injection eo13 with f1_ f2_ f3_;have f4_:=f1_.symm;have f5_:=f3_.symm;clear f1_ f2_ f3_;subst f4_;subst f5_))
     have p189 : 0 ≤ (0 : Int):=(by omega)
     have q189 : 0 < (t184.length : Int):=of_decide_eq_true (by first|(with_reducible assumption)|assumption)
     obtain ⟨ad189,e189,hx189_0,hx189_1⟩:=at_T30 (Kd.R_reads' HO187.out).2.2 0 p189 q189
     cases e189
     have qi189 : (0 < t184.length) = True:=eq_true (by omega)
     (try rw [show ((0 : Int)).toNat = 0 from rfl] at hx189_0)
     (try rw [show 0 * 2 = 0 from rfl] at hx189_0)
     (try rw [Addr.add_zero'] at hx189_0)
     (try rw [show ((0 : Int)).toNat = 0 from rfl] at hx189_1)
     (try rw [show 0 * 2 = 0 from rfl] at hx189_1)
     (try rw [Addr.add_zero'] at hx189_1)
     replace p189:=eq_true p189
     replace q189:=eq_true q189
     have p190 : 0 ≤ (0 : Int):=(by omega)
     have q190 : 0 < (t180.length : Int):=of_decide_eq_true (by first|(with_reducible assumption)|assumption)
     obtain ⟨ad190,e190,hx190_0,hx190_1⟩:=at_T30 (Kd.R_reads' HO183.out).2.2 0 p190 q190
     obtain rfl : ad188 = ad190:=(by injection e190)
     have qi190 : (0 < t180.length) = True:=eq_true (by omega)
     (try rw [show ((0 : Int)).toNat = 0 from rfl] at hx190_0)
     (try rw [show 0 * 2 = 0 from rfl] at hx190_0)
     (try rw [Addr.add_zero'] at hx190_0)
     (try rw [show ((0 : Int)).toNat = 0 from rfl] at hx190_1)
     (try rw [show 0 * 2 = 0 from rfl] at hx190_1)
     (try rw [Addr.add_zero'] at hx190_1)
     replace p190:=eq_true p190
     replace q190:=eq_true q190
     have p191 : 0 ≤ (0 : Int):=(by omega)
     have q191 : 0 < (t184.length : Int):=of_decide_eq_true (by first|(with_reducible assumption)|assumption)
     obtain ⟨ad191,e191,hx191_0,hx191_1⟩:=at_T30 (Kd.R_reads' HO187.out).2.2 0 p191 q191
     obtain rfl : ad189 = ad191:=(by injection e191)
     have qi191 : (0 < t184.length) = True:=eq_true (by omega)
     (try rw [show ((0 : Int)).toNat = 0 from rfl] at hx191_0)
     (try rw [show 0 * 2 = 0 from rfl] at hx191_0)
     (try rw [Addr.add_zero'] at hx191_0)
     (try rw [show ((0 : Int)).toNat = 0 from rfl] at hx191_1)
     (try rw [show 0 * 2 = 0 from rfl] at hx191_1)
     (try rw [Addr.add_zero'] at hx191_1)
     replace p191:=eq_true p191
     replace q191:=eq_true q191
     refine start_ (n:=21) (S:=fun w'=>w'.cell? ad188 = some (.int .i64 ((rd_T30 t180 0).f0))∧w'.cell? ⟨ad188.block,ad188.off + 1,none⟩ = some (.int .i64 ((rd_T30 t180 0).f1))∧w'.cell? ad189 = some (.int .i64 ((rd_T30 t184 0).f0))∧w'.cell? ⟨ad189.block,ad189.off + 1,none⟩ = some (.int .i64 ((rd_T30 t184 0).f1))∧w'.cell? ad188 = some (.int .i64 ((rd_T30 t180 0).f0))∧w'.cell? ⟨ad188.block,ad188.off + 1,none⟩ = some (.int .i64 ((rd_T30 t180 0).f1))∧w'.cell? ad189 = some (.int .i64 ((rd_T30 t184 0).f0))∧w'.cell? ⟨ad189.block,ad189.off + 1,none⟩ = some (.int .i64 ((rd_T30 t184 0).f1))) (ds:=[]) #[false,false,false,false,false,false,false,false,false,false,false,false,false,false,false,false,false,false,false,false,false] (by kernel_rfl) rfl rfl ⟨hx188_0,hx188_1,hx189_0,hx189_1,hx190_0,hx190_1,hx191_0,hx191_1⟩ (fun hHeld=>?_);refine with_tabW convex_Sum.tab8 convex_Sum.bits8 (fun HT_ HW_=>?_)
     generalize w10.drew = w11 at HO183 HO187 HB hx188_0 hx188_1 hx189_0 hx189_1 hx190_0 hx190_1 hx191_0 hx191_1 hHeld ⊢
     refine pure_ (i:=0) (N:=some 36) (v:=?_) (a':=?_) #[true,false,false,false,false,false,false,false,false,false,false,false,false,false,false,false,false,false,false,false,false] rfl rfl (any_of HT_.out (by kernel_rfl)) (fun _ _ _ h=>h) (Or.inl ⟨by rfl,?_⟩) ?_ ?_
     rotate_left
     ·
      intro w'
      go_simp
      with_reducible rfl
     rotate_left
     ·
      simp only [Act.put,la_,l0_,l1_,i64_w,i32_w]
      rfl
     refine pure_ (i:=1) (N:=some 37) (v:=?_) (a':=?_) #[true,true,false,false,false,false,false,false,false,false,false,false,false,false,false,false,false,false,false,false,false] rfl rfl (any_of HT_.out (by kernel_rfl)) (fun _ _ _ h=>h) (Or.inl ⟨by rfl,?_⟩) ?_ ?_
     rotate_left
     ·
      intro w'
      go_simp
      with_reducible rfl
     rotate_left
     ·
      simp only [Act.put,la_,l0_,l1_,i64_w,i32_w]
      rfl
     refine pure_ (i:=2) (N:=some 38) (v:=?_) (a':=?_) #[true,true,true,false,false,false,false,false,false,false,false,false,false,false,false,false,false,false,false,false,false] rfl rfl (any_of HT_.out (by kernel_rfl)) (fun _ _ _ h=>h) (Or.inl ⟨by rfl,?_⟩) ?_ ?_
     rotate_left
     ·
      intro w'
      go_simp
      with_reducible rfl
     rotate_left
     ·
      simp only [Act.put,la_,l0_,l1_,i64_w,i32_w]
      rfl
     refine pure_ (i:=4) (N:=some 40) (v:=?_) (a':=?_) #[true,true,true,false,true,false,false,false,false,false,false,false,false,false,false,false,false,false,false,false,false] rfl rfl (any_of HT_.out (by kernel_rfl)) (fun _ _ _ h=>h) (Or.inl ⟨by rfl,?_⟩) ?_ ?_
     rotate_left
     ·
      intro w'
      go_simp
      with_reducible rfl
     rotate_left
     ·
      simp only [Act.put,la_,l0_,l1_,i64_w,i32_w]
      rfl
     refine pure_ (i:=5) (N:=some 41) (v:=?_) (a':=?_) #[true,true,true,false,true,true,false,false,false,false,false,false,false,false,false,false,false,false,false,false,false] rfl rfl (any_of HT_.out (by kernel_rfl)) (fun _ _ _ h=>h) (Or.inl ⟨by rfl,?_⟩) ?_ ?_
     rotate_left
     ·
      intro w'
      go_simp
      with_reducible rfl
     rotate_left
     ·
      simp only [Act.put,la_,l0_,l1_,i64_w,i32_w]
      rfl
     refine pure_ (i:=6) (N:=some 42) (v:=?_) (a':=?_) #[true,true,true,false,true,true,true,false,false,false,false,false,false,false,false,false,false,false,false,false,false] rfl rfl (any_of HT_.out (by kernel_rfl)) (fun _ _ _ h=>h) (Or.inl ⟨by rfl,?_⟩) ?_ ?_
     rotate_left
     ·
      intro w'
      go_simp
      with_reducible rfl
     rotate_left
     ·
      simp only [Act.put,la_,l0_,l1_,i64_w,i32_w]
      rfl
     refine pure_ (i:=9) (N:=some 45) (v:=?_) (a':=?_) #[true,true,true,false,true,true,true,false,false,true,false,false,false,false,false,false,false,false,false,false,false] rfl rfl (any_of HT_.out (by kernel_rfl)) (fun _ _ _ h=>h) (Or.inl ⟨by rfl,?_⟩) ?_ ?_
     rotate_left
     ·
      intro w'
      go_simp
      with_reducible rfl
     rotate_left
     ·
      simp only [Act.put,la_,l0_,l1_,i64_w,i32_w]
      rfl
     refine pure_ (i:=10) (N:=some 46) (v:=?_) (a':=?_) #[true,true,true,false,true,true,true,false,false,true,true,false,false,false,false,false,false,false,false,false,false] rfl rfl (any_of HT_.out (by kernel_rfl)) (fun _ _ _ h=>h) (Or.inl ⟨by rfl,?_⟩) ?_ ?_
     rotate_left
     ·
      intro w'
      go_simp
      with_reducible rfl
     rotate_left
     ·
      simp only [Act.put,la_,l0_,l1_,i64_w,i32_w]
      rfl
     refine pure_ (i:=11) (N:=some 47) (v:=?_) (a':=?_) #[true,true,true,false,true,true,true,false,false,true,true,true,false,false,false,false,false,false,false,false,false] rfl rfl (any_of HT_.out (by kernel_rfl)) (fun _ _ _ h=>h) (Or.inl ⟨by rfl,?_⟩) ?_ ?_
     rotate_left
     ·
      intro w'
      go_simp
      with_reducible rfl
     rotate_left
     ·
      simp only [Act.put,la_,l0_,l1_,i64_w,i32_w]
      rfl
     refine pure_ (i:=13) (N:=some 49) (v:=?_) (a':=?_) #[true,true,true,false,true,true,true,false,false,true,true,true,false,true,false,false,false,false,false,false,false] rfl rfl (any_of HT_.out (by kernel_rfl)) (fun _ _ _ h=>h) (Or.inl ⟨by rfl,?_⟩) ?_ ?_
     rotate_left
     ·
      intro w'
      go_simp
      with_reducible rfl
     rotate_left
     ·
      simp only [Act.put,la_,l0_,l1_,i64_w,i32_w]
      rfl
     refine pure_ (i:=14) (N:=some 50) (v:=?_) (a':=?_) #[true,true,true,false,true,true,true,false,false,true,true,true,false,true,true,false,false,false,false,false,false] rfl rfl (any_of HT_.out (by kernel_rfl)) (fun _ _ _ h=>h) (Or.inl ⟨by rfl,?_⟩) ?_ ?_
     rotate_left
     ·
      intro w'
      go_simp
      with_reducible rfl
     rotate_left
     ·
      simp only [Act.put,la_,l0_,l1_,i64_w,i32_w]
      rfl
     refine pure_ (i:=15) (N:=some 51) (v:=?_) (a':=?_) #[true,true,true,false,true,true,true,false,false,true,true,true,false,true,true,true,false,false,false,false,false] rfl rfl (any_of HT_.out (by kernel_rfl)) (fun _ _ _ h=>h) (Or.inl ⟨by rfl,?_⟩) ?_ ?_
     rotate_left
     ·
      intro w'
      go_simp
      with_reducible rfl
     rotate_left
     ·
      simp only [Act.put,la_,l0_,l1_,i64_w,i32_w]
      rfl
     refine take_ (i:=3) (N:=some 39) (v:=?_) (a':=?_) #[true,true,true,true,true,true,true,false,false,true,true,true,false,true,true,true,false,false,false,false,false] rfl rfl (take_ofW HT_.out HW_.out (by kernel_rfl)) (fun _ _ _ h=>h) (Or.inl ⟨by rfl,?_⟩) hHeld ?_ ?_
     rotate_left
     ·
      rintro w' ⟨s0,s1,s2,s3,s4,s5,s6,s7⟩
      go_simp
      with_reducible rfl
     rotate_left
     ·
      simp only [Act.put,la_,l0_,l1_,i64_w,i32_w]
      rfl
     refine take_ (i:=7) (N:=some 43) (v:=?_) (a':=?_) #[true,true,true,true,true,true,true,true,false,true,true,true,false,true,true,true,false,false,false,false,false] rfl rfl (take_ofW HT_.out HW_.out (by kernel_rfl)) (fun _ _ _ h=>h) (Or.inl ⟨by rfl,?_⟩) hHeld ?_ ?_
     rotate_left
     ·
      rintro w' ⟨s0,s1,s2,s3,s4,s5,s6,s7⟩
      go_simp
      with_reducible rfl
     rotate_left
     ·
      simp only [Act.put,la_,l0_,l1_,i64_w,i32_w]
      rfl
     refine pure_ (i:=8) (N:=some 44) (v:=?_) (a':=?_) #[true,true,true,true,true,true,true,true,true,true,true,true,false,true,true,true,false,false,false,false,false] rfl rfl (any_of HT_.out (by kernel_rfl)) (fun _ _ _ h=>h) (Or.inl ⟨by rfl,?_⟩) ?_ ?_
     rotate_left
     ·
      intro w'
      go_simp
      with_reducible rfl
     rotate_left
     ·
      simp only [Act.put,la_,l0_,l1_,i64_w,i32_w]
      rfl
     refine take_ (i:=12) (N:=some 48) (v:=?_) (a':=?_) #[true,true,true,true,true,true,true,true,true,true,true,true,true,true,true,true,false,false,false,false,false] rfl rfl (take_ofW HT_.out HW_.out (by kernel_rfl)) (fun _ _ _ h=>h) (Or.inl ⟨by rfl,?_⟩) hHeld ?_ ?_
     rotate_left
     ·
      rintro w' ⟨s0,s1,s2,s3,s4,s5,s6,s7⟩
      go_simp
      with_reducible rfl
     rotate_left
     ·
      simp only [Act.put,la_,l0_,l1_,i64_w,i32_w]
      rfl
     refine take_ (i:=16) (N:=some 52) (v:=?_) (a':=?_) #[true,true,true,true,true,true,true,true,true,true,true,true,true,true,true,true,true,false,false,false,false] rfl rfl (take_ofW HT_.out HW_.out (by kernel_rfl)) (fun _ _ _ h=>h) (Or.inl ⟨by rfl,?_⟩) hHeld ?_ ?_
     rotate_left
     ·
      rintro w' ⟨s0,s1,s2,s3,s4,s5,s6,s7⟩
      go_simp
      with_reducible rfl
     rotate_left
     ·
      simp only [Act.put,la_,l0_,l1_,i64_w,i32_w]
      rfl
     refine pure_ (i:=17) (N:=some 53) (v:=?_) (a':=?_) #[true,true,true,true,true,true,true,true,true,true,true,true,true,true,true,true,true,true,false,false,false] rfl rfl (any_of HT_.out (by kernel_rfl)) (fun _ _ _ h=>h) (Or.inl ⟨by rfl,?_⟩) ?_ ?_
     rotate_left
     ·
      intro w'
      go_simp
      with_reducible rfl
     rotate_left
     ·
      simp only [Act.put,la_,l0_,l1_,i64_w,i32_w]
      rfl
     refine pure_ (i:=18) (N:=some 54) (v:=?_) (a':=?_) #[true,true,true,true,true,true,true,true,true,true,true,true,true,true,true,true,true,true,true,false,false] rfl rfl (any_of HT_.out (by kernel_rfl)) (fun _ _ _ h=>h) (Or.inl ⟨by rfl,?_⟩) ?_ ?_
     rotate_left
     ·
      intro w'
      go_simp
      with_reducible rfl
     rotate_left
     ·
      simp only [Act.put,la_,l0_,l1_,i64_w,i32_w]
      rfl
     refine one_ (i:=19) (N:=some 10) #[true,true,true,true,true,true,true,true,true,true,true,true,true,true,true,true,true,true,true,true,false] rfl rfl (one_of HT_.out (by kernel_rfl)) (by decide) (fun K hK=>?_)
     refine box_step ?hg (N:=10) ?hd (cs:=#[.int .i64 0,.int .i64 0]) (t:=30) ?hr ?_;(case hd=>rfl);(case hg=>rfl);(case hr=>first|(go_simp;done)|(go_simp;rfl))
     intro gb192 hg w14 hbox hb
     have HS0_:=(hb.cell (bl_ _ _ (hHeld.1))).trans (hHeld.1)
     have HS1_:=(hb.cell (bl_ _ _ (hHeld.2.1))).trans (hHeld.2.1)
     have HS2_:=(hb.cell (bl_ _ _ (hHeld.2.2.1))).trans (hHeld.2.2.1)
     have HS3_:=(hb.cell (bl_ _ _ (hHeld.2.2.2.1))).trans (hHeld.2.2.2.1)
     have HS4_:=(hb.cell (bl_ _ _ (hHeld.2.2.2.2.1))).trans (hHeld.2.2.2.2.1)
     have HS5_:=(hb.cell (bl_ _ _ (hHeld.2.2.2.2.2.1))).trans (hHeld.2.2.2.2.2.1)
     have HS6_:=(hb.cell (bl_ _ _ (hHeld.2.2.2.2.2.2.1))).trans (hHeld.2.2.2.2.2.2.1)
     have HS7_:=(hb.cell (bl_ _ _ (hHeld.2.2.2.2.2.2.2))).trans (hHeld.2.2.2.2.2.2.2)
     have n0_:=Aside0.mk (Kd.R_below (Kd.R_elderB (by (with_reducible repeat (first|apply ra_|apply rn_|apply rd_));exact HO183.out) gb192 (Nat.le_of_eq hg.symm)) hb)
     have n1_:=Aside0.mk (Kd.R_below (Kd.R_elderB (by (with_reducible repeat (first|apply ra_|apply rn_|apply rd_));exact HO187.out) gb192 (Nat.le_of_eq hg.symm)) hb)
     have n2_:=Aside0.mk (below_step (by repeat (first|(with_reducible first|exact HB.out|apply ba_|apply bn_|apply bd_)|exact HB.out)) hb)
     have n3_:=Aside0.mk (hbox)
     have n4_:=Aside0.mk ((by rw [hg];exact (below_size (by repeat (first|(with_reducible first|exact HB.out|apply ba_|apply bn_|apply bd_)|exact HB.out))) : w.heap.size ≤ gb192))
     have n5_:=Aside0.mk ((by rw [hg];exact (below_size (by repeat (first|(with_reducible first|exact HB.out|apply ba_|apply bn_|apply bd_)|exact HB.out))) : w.heap.size ≤ gb192))
     clear HO183
     clear HO187
     clear HB
     have HO183:=n0_
     have HO187:=n1_
     have HB:=n2_
     have BK192:=n3_
     have GW192:=n4_
     have GE192:=n5_
     clear n0_ n1_ n2_ n3_ n4_ n5_
     clear hb hbox hg
     refine hK.out _ _ ⟨HS0_,HS1_,HS2_,HS3_,HS4_,HS5_,HS6_,HS7_⟩ (fun hHeld=>?_)
     clear hK K
     refine norm_ (a':=?_) ?_ ?_
     rotate_left
     ·
      show Act.put _ (some 10) _ = _
      simp only [Act.put,la_,l0_,l1_,i64_w,i32_w]
      rfl
     refine one_ (i:=20) (N:=none) #[true,true,true,true,true,true,true,true,true,true,true,true,true,true,true,true,true,true,true,true,true] rfl rfl (one_of HT_.out (by kernel_rfl)) (by decide) (fun K hK=>?_)
     have hs15 : w14.cell? ⟨gb192,0,none⟩ = some (.int .i64 0):=(blk_cell BK192.out 0).trans rfl
     have hfs15:=blk_frozen BK192.out 0
     have hs16 : w14.cell? ⟨gb192,1,none⟩ = some (.int .i64 0):=(blk_cell BK192.out 1).trans rfl
     have hfs16:=blk_frozen BK192.out 1
     refine skip_ (w1:=?_) (by rfl) rfl ?_ ?_
     rotate_left
     ·
      go_simp
      rfl
     refine hK.out _ _ ⟨((cell_far (p:=⟨gb192,_,none⟩) (by first|exact Kd.own_blk (Kd.R_away HO183.out (fun _ hk=>hk.2))|(rw [add_block];exact Kd.own_blk (Kd.R_away HO183.out (fun _ hk=>hk.2)))|(show (Addr.add _ _).block ≠ _;rw [add_block];exact Kd.own_blk (Kd.R_away HO183.out (fun _ hk=>hk.2)))|(dsimp only;exact Kd.own_blk (Kd.R_away HO183.out (fun _ hk=>hk.2)))) _).trans (((cell_far (p:=⟨gb192,_,none⟩) (by first|exact Kd.own_blk (Kd.R_away HO183.out (fun _ hk=>hk.2))|(rw [add_block];exact Kd.own_blk (Kd.R_away HO183.out (fun _ hk=>hk.2)))|(show (Addr.add _ _).block ≠ _;rw [add_block];exact Kd.own_blk (Kd.R_away HO183.out (fun _ hk=>hk.2)))|(dsimp only;exact Kd.own_blk (Kd.R_away HO183.out (fun _ hk=>hk.2)))) _).trans (hHeld.1)))),((cell_far (p:=⟨gb192,_,none⟩) (by first|exact Kd.own_blk (Kd.R_away HO183.out (fun _ hk=>hk.2))|(rw [add_block];exact Kd.own_blk (Kd.R_away HO183.out (fun _ hk=>hk.2)))|(show (Addr.add _ _).block ≠ _;rw [add_block];exact Kd.own_blk (Kd.R_away HO183.out (fun _ hk=>hk.2)))|(dsimp only;exact Kd.own_blk (Kd.R_away HO183.out (fun _ hk=>hk.2)))) _).trans (((cell_far (p:=⟨gb192,_,none⟩) (by first|exact Kd.own_blk (Kd.R_away HO183.out (fun _ hk=>hk.2))|(rw [add_block];exact Kd.own_blk (Kd.R_away HO183.out (fun _ hk=>hk.2)))|(show (Addr.add _ _).block ≠ _;rw [add_block];exact Kd.own_blk (Kd.R_away HO183.out (fun _ hk=>hk.2)))|(dsimp only;exact Kd.own_blk (Kd.R_away HO183.out (fun _ hk=>hk.2)))) _).trans (hHeld.2.1)))),((cell_far (p:=⟨gb192,_,none⟩) (by first|exact Kd.own_blk (Kd.R_away HO187.out (fun _ hk=>hk.2))|(rw [add_block];exact Kd.own_blk (Kd.R_away HO187.out (fun _ hk=>hk.2)))|(show (Addr.add _ _).block ≠ _;rw [add_block];exact Kd.own_blk (Kd.R_away HO187.out (fun _ hk=>hk.2)))|(dsimp only;exact Kd.own_blk (Kd.R_away HO187.out (fun _ hk=>hk.2)))) _).trans (((cell_far (p:=⟨gb192,_,none⟩) (by first|exact Kd.own_blk (Kd.R_away HO187.out (fun _ hk=>hk.2))|(rw [add_block];exact Kd.own_blk (Kd.R_away HO187.out (fun _ hk=>hk.2)))|(show (Addr.add _ _).block ≠ _;rw [add_block];exact Kd.own_blk (Kd.R_away HO187.out (fun _ hk=>hk.2)))|(dsimp only;exact Kd.own_blk (Kd.R_away HO187.out (fun _ hk=>hk.2)))) _).trans (hHeld.2.2.1)))),((cell_far (p:=⟨gb192,_,none⟩) (by first|exact Kd.own_blk (Kd.R_away HO187.out (fun _ hk=>hk.2))|(rw [add_block];exact Kd.own_blk (Kd.R_away HO187.out (fun _ hk=>hk.2)))|(show (Addr.add _ _).block ≠ _;rw [add_block];exact Kd.own_blk (Kd.R_away HO187.out (fun _ hk=>hk.2)))|(dsimp only;exact Kd.own_blk (Kd.R_away HO187.out (fun _ hk=>hk.2)))) _).trans (((cell_far (p:=⟨gb192,_,none⟩) (by first|exact Kd.own_blk (Kd.R_away HO187.out (fun _ hk=>hk.2))|(rw [add_block];exact Kd.own_blk (Kd.R_away HO187.out (fun _ hk=>hk.2)))|(show (Addr.add _ _).block ≠ _;rw [add_block];exact Kd.own_blk (Kd.R_away HO187.out (fun _ hk=>hk.2)))|(dsimp only;exact Kd.own_blk (Kd.R_away HO187.out (fun _ hk=>hk.2)))) _).trans (hHeld.2.2.2.1)))),((cell_far (p:=⟨gb192,_,none⟩) (by first|exact Kd.own_blk (Kd.R_away HO183.out (fun _ hk=>hk.2))|(rw [add_block];exact Kd.own_blk (Kd.R_away HO183.out (fun _ hk=>hk.2)))|(show (Addr.add _ _).block ≠ _;rw [add_block];exact Kd.own_blk (Kd.R_away HO183.out (fun _ hk=>hk.2)))|(dsimp only;exact Kd.own_blk (Kd.R_away HO183.out (fun _ hk=>hk.2)))) _).trans (((cell_far (p:=⟨gb192,_,none⟩) (by first|exact Kd.own_blk (Kd.R_away HO183.out (fun _ hk=>hk.2))|(rw [add_block];exact Kd.own_blk (Kd.R_away HO183.out (fun _ hk=>hk.2)))|(show (Addr.add _ _).block ≠ _;rw [add_block];exact Kd.own_blk (Kd.R_away HO183.out (fun _ hk=>hk.2)))|(dsimp only;exact Kd.own_blk (Kd.R_away HO183.out (fun _ hk=>hk.2)))) _).trans (hHeld.2.2.2.2.1)))),((cell_far (p:=⟨gb192,_,none⟩) (by first|exact Kd.own_blk (Kd.R_away HO183.out (fun _ hk=>hk.2))|(rw [add_block];exact Kd.own_blk (Kd.R_away HO183.out (fun _ hk=>hk.2)))|(show (Addr.add _ _).block ≠ _;rw [add_block];exact Kd.own_blk (Kd.R_away HO183.out (fun _ hk=>hk.2)))|(dsimp only;exact Kd.own_blk (Kd.R_away HO183.out (fun _ hk=>hk.2)))) _).trans (((cell_far (p:=⟨gb192,_,none⟩) (by first|exact Kd.own_blk (Kd.R_away HO183.out (fun _ hk=>hk.2))|(rw [add_block];exact Kd.own_blk (Kd.R_away HO183.out (fun _ hk=>hk.2)))|(show (Addr.add _ _).block ≠ _;rw [add_block];exact Kd.own_blk (Kd.R_away HO183.out (fun _ hk=>hk.2)))|(dsimp only;exact Kd.own_blk (Kd.R_away HO183.out (fun _ hk=>hk.2)))) _).trans (hHeld.2.2.2.2.2.1)))),((cell_far (p:=⟨gb192,_,none⟩) (by first|exact Kd.own_blk (Kd.R_away HO187.out (fun _ hk=>hk.2))|(rw [add_block];exact Kd.own_blk (Kd.R_away HO187.out (fun _ hk=>hk.2)))|(show (Addr.add _ _).block ≠ _;rw [add_block];exact Kd.own_blk (Kd.R_away HO187.out (fun _ hk=>hk.2)))|(dsimp only;exact Kd.own_blk (Kd.R_away HO187.out (fun _ hk=>hk.2)))) _).trans (((cell_far (p:=⟨gb192,_,none⟩) (by first|exact Kd.own_blk (Kd.R_away HO187.out (fun _ hk=>hk.2))|(rw [add_block];exact Kd.own_blk (Kd.R_away HO187.out (fun _ hk=>hk.2)))|(show (Addr.add _ _).block ≠ _;rw [add_block];exact Kd.own_blk (Kd.R_away HO187.out (fun _ hk=>hk.2)))|(dsimp only;exact Kd.own_blk (Kd.R_away HO187.out (fun _ hk=>hk.2)))) _).trans (hHeld.2.2.2.2.2.2.1)))),((cell_far (p:=⟨gb192,_,none⟩) (by first|exact Kd.own_blk (Kd.R_away HO187.out (fun _ hk=>hk.2))|(rw [add_block];exact Kd.own_blk (Kd.R_away HO187.out (fun _ hk=>hk.2)))|(show (Addr.add _ _).block ≠ _;rw [add_block];exact Kd.own_blk (Kd.R_away HO187.out (fun _ hk=>hk.2)))|(dsimp only;exact Kd.own_blk (Kd.R_away HO187.out (fun _ hk=>hk.2)))) _).trans (((cell_far (p:=⟨gb192,_,none⟩) (by first|exact Kd.own_blk (Kd.R_away HO187.out (fun _ hk=>hk.2))|(rw [add_block];exact Kd.own_blk (Kd.R_away HO187.out (fun _ hk=>hk.2)))|(show (Addr.add _ _).block ≠ _;rw [add_block];exact Kd.own_blk (Kd.R_away HO187.out (fun _ hk=>hk.2)))|(dsimp only;exact Kd.own_blk (Kd.R_away HO187.out (fun _ hk=>hk.2)))) _).trans (hHeld.2.2.2.2.2.2.2))))⟩ (fun hHeld=>?_)
     clear hK K
     refine done_ (done_of HT_.out (by kernel_rfl)) ?_
     try go_wp2
     go_loopg [9,11,12] k (fun kq v9 v11 v12 w'=>∃ (x9_1 : List (S30)) (x11_1 : Int) (x12_1 : Int) (x193000_1 : Int) (x193001_1 : Int),v11 = .int .i64 x11_1∧v12 = .int .i64 x12_1∧Aside0 (convex_Sum.l0 kq t180 t184 x9_1 x11_1 x12_1 x193000_1 x193001_1 = some (r1,r2))∧Aside0 (kq ≤ k)∧Aside0 (Kd.R k30 30 w' w.heap.size (fun k_=>some k_ ≠ ((.slice (some ad189) t184.length co13) : Value).ownBlock∧some k_ ≠ (v9 : Value).ownBlock∧k_ ≠ gb192) (.slice (some ad188) t180.length co12) t180)∧Aside0 (Kd.R k30 30 w' w.heap.size (fun k_=>some k_ ≠ ((.slice (some ad188) t180.length co12) : Value).ownBlock∧some k_ ≠ (v9 : Value).ownBlock∧k_ ≠ gb192) (.slice (some ad189) t184.length co13) t184)∧Aside0 (Kd.R k30 30 w' w.heap.size (fun k_=>some k_ ≠ ((.slice (some ad188) t180.length co12) : Value).ownBlock∧some k_ ≠ ((.slice (some ad189) t184.length co13) : Value).ownBlock∧k_ ≠ gb192) v9 x9_1)∧Aside0 (w'.heap[gb192]? = some (.cells #[.int .i64 x193000_1,.int .i64 x193001_1] 30 (0,0)))∧Aside0 (Below w.heap.size w w'))
     case atStart=>exact ⟨(([] : List (S30))),(0),(0),(wrap64 (((rd_T30 t180 0).f0) + ((rd_T30 t184 0).f0))),(wrap64 (((rd_T30 t180 0).f1) + ((rd_T30 t184 0).f1))),(by first|rfl|(simp;done)|(simp [*];done)),(by first|rfl|(simp;done)|(simp [*];done)),H',⟨Nat.le_refl _⟩,⟨by (with_reducible repeat (first|apply ra_|apply rn_|apply rd_));exact Kd.R_mono (Kd.R_far (p:=⟨gb192,1,none⟩) (Kd.R_far (p:=⟨gb192,0,none⟩) (Kd.R_mono HO183.out (fun k_ hk=>(⟨hk,hk.2⟩ : _∧k_ ≠ gb192))) (fun _ hk=>hk.2) (.int .i64 (wrap64 (((rd_T30 t180 0).f0) + ((rd_T30 t184 0).f0))))) (fun _ hk=>hk.2) (.int .i64 (wrap64 (((rd_T30 t180 0).f1) + ((rd_T30 t184 0).f1))))) (fun _ hk=>⟨hk.1.1.2,⟨(by simp [Value.ownBlock]),hk.1.2⟩⟩)⟩,⟨by (with_reducible repeat (first|apply ra_|apply rn_|apply rd_));exact Kd.R_mono (Kd.R_far (p:=⟨gb192,1,none⟩) (Kd.R_far (p:=⟨gb192,0,none⟩) (Kd.R_mono HO187.out (fun k_ hk=>(⟨hk,hk.2⟩ : _∧k_ ≠ gb192))) (fun _ hk=>hk.2) (.int .i64 (wrap64 (((rd_T30 t180 0).f0) + ((rd_T30 t184 0).f0))))) (fun _ hk=>hk.2) (.int .i64 (wrap64 (((rd_T30 t180 0).f1) + ((rd_T30 t184 0).f1))))) (fun _ hk=>⟨hk.1.1.2,⟨(by simp [Value.ownBlock]),hk.1.2⟩⟩)⟩,⟨by first|exact Kd.R_nil _ _ _ _ _|exact Kd.N_nil _ _ _ _ _|exact Kd.V_nil _ _ _ _ _|exact Kd.Q_nil _ _ _ _ _|exact Kd.S_nil _ _ _ _ _⟩,⟨by (with_reducible repeat (first|refine kn_ ?_ _|refine kd_ ?_|refine ka_ ?_ _));refine blk_put (cs:=#[.int .i64 (wrap64 (((rd_T30 t180 0).f0) + ((rd_T30 t184 0).f0))),.int .i64 0]) ?_ 1 _ rfl;(with_reducible repeat (first|refine kn_ ?_ _|refine kd_ ?_|refine ka_ ?_ _));refine blk_put (cs:=#[.int .i64 0,.int .i64 0]) ?_ 0 _ rfl;(with_reducible repeat (first|refine kn_ ?_ _|refine kd_ ?_|refine ka_ ?_ _));exact BK192.out⟩,⟨by repeat (first|(with_reducible first|exact HB.out|apply ba_|apply bn_|apply bd_|refine below_set ?_ GE192.out)|exact HB.out)⟩⟩
     case round =>
      clear H'
      try clear c1
      try clear p1
      try clear q1
      try clear hx1
      try clear qi1
      try clear c2
      try clear p2
      try clear c4
      try clear c4b0
      try clear c4b1
      try clear c6
      try clear c6b0
      try clear c6b1
      try clear p6
      try clear c7
      try clear c7b0
      try clear c7b1
      try clear c8
      try clear c8b0
      try clear c8b1
      try clear c11
      try clear hx188_0
      try clear hx188_1
      try clear hx189_0
      try clear hx189_1
      try clear hx190_0
      try clear hx190_1
      try clear hx191_0
      try clear hx191_1
      try clear p188
      try clear p189
      try clear p190
      try clear p191
      try clear q188
      try clear q189
      try clear q190
      try clear q191
      obtain ⟨x9_1,x11_1,x12_1,x193000_1,x193001_1,rfl,rfl,HA,HK1,HO_6,HO_8,HO_9,BK192,HB⟩:=hrel
      cases gk with
      | zero=>exact absurd HA.out (by simp [convex_Sum.l0])
      | succ k1 =>
       have H:=HA.out
       clear HA
       simp only [convex_Sum.l0] at H
       have HC17:=Aside0.mk H
       clear H
       go_upto_region 10 with (fail)
       go_cut [64] (fun v64 wc=>∃ (kq : Nat) (x64_16 : Bool),v64 = .bool x64_16∧Aside0 (convex_Sum.j1 kq t180 t184 x9_1 x11_1 x12_1 x64_16 x193000_1 x193001_1 = some (r1,r2))∧Aside0 (kq ≤ k1)∧Aside0 (Kd.R k30 30 wc w.heap.size (fun k_=>some k_ ≠ ((.slice (some ad189) t184.length co13) : Value).ownBlock∧some k_ ≠ (u9 : Value).ownBlock∧k_ ≠ gb192) (.slice (some ad188) t180.length co12) t180)∧Aside0 (Kd.R k30 30 wc w.heap.size (fun k_=>some k_ ≠ ((.slice (some ad188) t180.length co12) : Value).ownBlock∧some k_ ≠ (u9 : Value).ownBlock∧k_ ≠ gb192) (.slice (some ad189) t184.length co13) t184)∧Aside0 (Kd.R k30 30 wc w.heap.size (fun k_=>some k_ ≠ ((.slice (some ad188) t180.length co12) : Value).ownBlock∧some k_ ≠ ((.slice (some ad189) t184.length co13) : Value).ownBlock∧k_ ≠ gb192) u9 x9_1)∧Aside0 (wc.heap[gb192]? = some (.cells #[.int .i64 x193000_1,.int .i64 x193001_1] 30 (0,0)))∧Aside0 (Below w.heap.size w wc))
       case first =>
        have H:=HC17.out
        clear HC17
        by_cases c18 : x11_1 < (t180.length : Int)
        ·
         rw [if_pos c18] at H
         have c18b0 : decide (x11_1 < (t180.length : Int)) = true:=decide_eq_true c18
         clear c18
         (first|rw [c18b0]|(simp only [i64_w,i32_w];rw [c18b0])|skip)
         have H':=Aside0.mk H
         clear H
         go_wp2
         go_meet
         case rel=>exact ⟨_,(true),(by first|rfl|(simp;done)|(simp [*];done)),H',⟨by have:=HK1.out;first|omega|exact Nat.le_refl _⟩,⟨by (with_reducible repeat (first|apply ra_|apply rn_|apply rd_));exact HO_6.out⟩,⟨by (with_reducible repeat (first|apply ra_|apply rn_|apply rd_));exact HO_8.out⟩,⟨by (with_reducible repeat (first|apply ra_|apply rn_|apply rd_));exact HO_9.out⟩,⟨by (with_reducible repeat (first|refine kn_ ?_ _|refine kd_ ?_|refine ka_ ?_ _));exact BK192.out⟩,⟨by repeat (first|(with_reducible first|exact HB.out|apply ba_|apply bn_|apply bd_|refine below_set ?_ GE192.out)|exact HB.out)⟩⟩
        rw [if_neg c18] at H
        have c18b0 : decide (x11_1 < (t180.length : Int)) = false:=decide_eq_false c18
        clear c18
        (first|rw [c18b0]|(simp only [i64_w,i32_w];rw [c18b0])|skip)
        have H':=Aside0.mk H
        clear H
        go_wp2
        go_meet
        case rel=>exact ⟨_,(decide (x12_1 < (t184.length : Int))),(by first|rfl|(simp;done)|(simp [*];done)),H',⟨by have:=HK1.out;first|omega|exact Nat.le_refl _⟩,⟨by (with_reducible repeat (first|apply ra_|apply rn_|apply rd_));exact HO_6.out⟩,⟨by (with_reducible repeat (first|apply ra_|apply rn_|apply rd_));exact HO_8.out⟩,⟨by (with_reducible repeat (first|apply ra_|apply rn_|apply rd_));exact HO_9.out⟩,⟨by (with_reducible repeat (first|refine kn_ ?_ _|refine kd_ ?_|refine ka_ ?_ _));exact BK192.out⟩,⟨by repeat (first|(with_reducible first|exact HB.out|apply ba_|apply bn_|apply bd_|refine below_set ?_ GE192.out)|exact HB.out)⟩⟩
       case rest =>
        clear HC17
        try clear c1
        try clear p1
        try clear q1
        try clear hx1
        try clear qi1
        try clear c2
        try clear p2
        try clear c4
        try clear c4b0
        try clear c4b1
        try clear c6
        try clear c6b0
        try clear c6b1
        try clear p6
        try clear c7
        try clear c7b0
        try clear c7b1
        try clear c8
        try clear c8b0
        try clear c8b1
        try clear c11
        try clear c18
        try clear c18b0
        try clear p18
        try clear q18
        try clear hx18
        try clear qi18
        try clear hx188_0
        try clear hx188_1
        try clear hx189_0
        try clear hx189_1
        try clear hx190_0
        try clear hx190_1
        try clear hx191_0
        try clear hx191_1
        try clear p1
        try clear p188
        try clear p189
        try clear p190
        try clear p191
        try clear p2
        try clear p6
        try clear q1
        try clear q188
        try clear q189
        try clear q190
        try clear q191
        obtain ⟨kq,x64_16,rfl,HA,HJ16,HO_6,HO_8,HO_9,BK192,HB⟩:=hcut
        cases kq with
        | zero=>exact absurd HA.out (by simp [convex_Sum.j1])
        | succ kj16 =>
         have H:=HA.out
         clear HA
         simp only [convex_Sum.j1] at H
         by_cases c19 : x64_16 = true
         ·
          subst c19
          have H1 : (if x9_1.length < 8796093022208 then ((some (x9_1 ++ [(⟨x193000_1,x193001_1⟩ : S30)] : List (S30))).bind fun y193=>((convex_way.f t180 x11_1).bind fun bt196=>((convex_way.f t184 x12_1).bind fun bt198=>(if x12_1 = (t184.length : Int) then (convex_Sum.j2 kj16 t180 t184 y193 x11_1 x12_1 (wrap64 ((wrap64 (bt196.1 * bt198.2)) - (wrap64 (bt196.2 * bt198.1)))) true x193000_1 x193001_1 bt196.1 bt196.2 bt198.1 bt198.2) else (if x11_1 < (t180.length : Int) then (convex_Sum.j2 kj16 t180 t184 y193 x11_1 x12_1 (wrap64 ((wrap64 (bt196.1 * bt198.2)) - (wrap64 (bt196.2 * bt198.1)))) (decide ((wrap64 ((wrap64 (bt196.1 * bt198.2)) - (wrap64 (bt196.2 * bt198.1)))) ≥ 0)) x193000_1 x193001_1 bt196.1 bt196.2 bt198.1 bt198.2) else (convex_Sum.j2 kj16 t180 t184 y193 x11_1 x12_1 (wrap64 ((wrap64 (bt196.1 * bt198.2)) - (wrap64 (bt196.2 * bt198.1)))) false x193000_1 x193001_1 bt196.1 bt196.2 bt198.1 bt198.2)))))) else (none)) = some (r1,r2):=by rw [if_pos rfl] at H;exact H
          clear H
          have H:=H1
          clear H1
          by_cases c20 : x9_1.length < 8796093022208
          ·
           rw [if_pos c20] at H
           have LMc20:=Aside0.mk c20
           clear c20
           obtain ⟨y193,hy193⟩ : ∃ y_ : List (S30),y_ = (x9_1 ++ [(⟨x193000_1,x193001_1⟩ : S30)]):=⟨_,rfl⟩
           replace H : ((convex_way.f t180 x11_1).bind fun bt196=>((convex_way.f t184 x12_1).bind fun bt198=>(if x12_1 = (t184.length : Int) then (convex_Sum.j2 kj16 t180 t184 y193 x11_1 x12_1 (wrap64 ((wrap64 (bt196.1 * bt198.2)) - (wrap64 (bt196.2 * bt198.1)))) true x193000_1 x193001_1 bt196.1 bt196.2 bt198.1 bt198.2) else (if x11_1 < (t180.length : Int) then (convex_Sum.j2 kj16 t180 t184 y193 x11_1 x12_1 (wrap64 ((wrap64 (bt196.1 * bt198.2)) - (wrap64 (bt196.2 * bt198.1)))) (decide ((wrap64 ((wrap64 (bt196.1 * bt198.2)) - (wrap64 (bt196.2 * bt198.1)))) ≥ 0)) x193000_1 x193001_1 bt196.1 bt196.2 bt198.1 bt198.2) else (convex_Sum.j2 kj16 t180 t184 y193 x11_1 x12_1 (wrap64 ((wrap64 (bt196.1 * bt198.2)) - (wrap64 (bt196.2 * bt198.1)))) false x193000_1 x193001_1 bt196.1 bt196.2 bt198.1 bt198.2))))) = some (r1,r2):=by first|(rw [hy193];with_reducible exact H)|(have H2_:=(Option.bind_some _ _).symm.trans H;rw [hy193];with_reducible exact H2_)|(have H2_:=(Option.bind_some _ _).symm.trans H;with_reducible exact H2_)|with_reducible exact H|(rw [hy193];exact H)|exact H
           have Ny193:=Aside0.mk hy193
           clear hy193
           replace H:=Option.bind_eq_some_iff.mp H
           obtain ⟨⟨t196,t197⟩,A210,H⟩:=H
           replace H : ((convex_way.f t184 x12_1).bind fun bt198=>(if x12_1 = (t184.length : Int) then (convex_Sum.j2 kj16 t180 t184 y193 x11_1 x12_1 (wrap64 ((wrap64 (t196 * bt198.2)) - (wrap64 (t197 * bt198.1)))) true x193000_1 x193001_1 t196 t197 bt198.1 bt198.2) else (if x11_1 < (t180.length : Int) then (convex_Sum.j2 kj16 t180 t184 y193 x11_1 x12_1 (wrap64 ((wrap64 (t196 * bt198.2)) - (wrap64 (t197 * bt198.1)))) (decide ((wrap64 ((wrap64 (t196 * bt198.2)) - (wrap64 (t197 * bt198.1)))) ≥ 0)) x193000_1 x193001_1 t196 t197 bt198.1 bt198.2) else (convex_Sum.j2 kj16 t180 t184 y193 x11_1 x12_1 (wrap64 ((wrap64 (t196 * bt198.2)) - (wrap64 (t197 * bt198.1)))) false x193000_1 x193001_1 t196 t197 bt198.1 bt198.2)))) = some (r1,r2):=H
           have A21:=Aside0.mk A210
           clear A210
           replace H:=Option.bind_eq_some_iff.mp H
           obtain ⟨⟨t198,t199⟩,A220,H⟩:=H
           replace H : (if x12_1 = (t184.length : Int) then (convex_Sum.j2 kj16 t180 t184 y193 x11_1 x12_1 (wrap64 ((wrap64 (t196 * t199)) - (wrap64 (t197 * t198)))) true x193000_1 x193001_1 t196 t197 t198 t199) else (if x11_1 < (t180.length : Int) then (convex_Sum.j2 kj16 t180 t184 y193 x11_1 x12_1 (wrap64 ((wrap64 (t196 * t199)) - (wrap64 (t197 * t198)))) (decide ((wrap64 ((wrap64 (t196 * t199)) - (wrap64 (t197 * t198)))) ≥ 0)) x193000_1 x193001_1 t196 t197 t198 t199) else (convex_Sum.j2 kj16 t180 t184 y193 x11_1 x12_1 (wrap64 ((wrap64 (t196 * t199)) - (wrap64 (t197 * t198)))) false x193000_1 x193001_1 t196 t197 t198 t199))) = some (r1,r2):=H
           have A22:=Aside0.mk A220
           clear A220
           have HC23:=Aside0.mk H
           clear H
           have hcz24_0 : wc.cell? ⟨gb192,0,none⟩ = some (.int .i64 x193000_1):=(blk_cell BK192.out 0).trans rfl
           have hcz24_1 : wc.cell? ⟨gb192,1,none⟩ = some (.int .i64 x193001_1):=(blk_cell BK192.out 1).trans rfl
           have hfz24_0:=blk_frozen BK192.out 0
           have hfz24_1:=blk_frozen BK192.out 1
           go_upto_region 14 with (first|((with_reducible refine gate_builtin (b:=.append) (xs:=#[.tmp 65,.tmp 67]) rfl ?_);(try (refine gate_guard (by rfl) ?_;dsimp only));at_builtin;refine Kd.R_append k30 (w0:=w) w.heap.size rfl (.tmp 65) (.tmp 67) 22 30 (.agg #[(.int .i64 0),(.int .i64 0)]) 16 rfl Try.underlying22 info30 rfl (by decide) (by omega) u9 x9_1 (⟨x193000_1,x193001_1⟩ : S30) [.int .i64 x193000_1,.int .i64 x193001_1] (fun k_=>some k_ ≠ (.slice (some ad188) t180.length co12 : Value).ownBlock∧some k_ ≠ (.slice (some ad189) t184.length co13 : Value).ownBlock∧k_ ≠ gb192) (fun _=>False) rfl rfl ?aP (fun _ hk=>hk.elim) ?aF ?aO ?aB ?aS ?aL ?_;(case aP=>exact k30_mkM _ _ _ (⟨x193000_1,x193001_1⟩ : S30));(case aB=>exact (by repeat (first|(with_reducible first|exact HB.out|apply ba_|apply bn_|apply bd_|refine below_set ?_ GE192.out)|exact HB.out)));(case aF=>exact (fun k_ hk=>⟨Kd.fresh' (Kd.R_lt (by (with_reducible repeat (first|apply ra_|apply rn_|apply rd_));exact HO_6.out)) k_ hk,Kd.fresh' (Kd.R_lt (by (with_reducible repeat (first|apply ra_|apply rn_|apply rd_));exact HO_8.out)) k_ hk,Kd.freshB (g:=gb192) (o:=.cells #[.int .i64 x193000_1,.int .i64 x193001_1] 30 (0,0)) (by (with_reducible repeat (first|refine kn_ ?_ _|refine kd_ ?_|refine ka_ ?_ _));exact BK192.out) k_ hk⟩));(case aO=>exact (by (with_reducible repeat (first|apply ra_|apply rn_|apply rd_));exact HO_9.out));(case aS=>exact (below_size (by repeat (first|(with_reducible first|exact HB.out|apply ba_|apply bn_|apply bd_|refine below_set ?_ GE192.out)|exact HB.out))));(case aL=>have:=LMc20.out;omega);intro v194 w25 ho hb hg hat;rw [← Ny193.out] at ho;have n0_:=Aside0.mk (Kd.R_after (ok:=(fun k_=>some k_ ≠ (.slice (some ad189) t184.length co13 : Value).ownBlock∧k_ ≠ gb192)) (by (with_reducible repeat (first|apply ra_|apply rn_|apply rd_));exact Kd.R_mono HO_6.out (fun _ hk=>⟨⟨hk.1,hk.2.2⟩,hk.2.1⟩)) hg hat);have n1_:=Aside0.mk (Kd.R_after (ok:=(fun k_=>some k_ ≠ (.slice (some ad188) t180.length co12 : Value).ownBlock∧k_ ≠ gb192)) (by (with_reducible repeat (first|apply ra_|apply rn_|apply rd_));exact Kd.R_mono HO_8.out (fun _ hk=>⟨⟨hk.1,hk.2.2⟩,hk.2.1⟩)) hg hat);have n2_:=Aside0.mk (blk_grown (g:=gb192) (o:=.cells #[.int .i64 x193000_1,.int .i64 x193001_1] 30 (0,0)) (by (with_reducible repeat (first|refine kn_ ?_ _|refine kd_ ?_|refine ka_ ?_ _));exact BK192.out) hg (Kd.R_away HO_9.out (fun _ hk=>hk.2.2)));have n3_:=Aside0.mk (hb);have n4_:=Aside0.mk (ho);clear HO_6;clear HO_8;clear BK192;clear HB;clear HO_9;have HO_6:=n0_;have HO_8:=n1_;have BK192:=n2_;have HB:=n3_;have HO195:=n4_;clear n0_ n1_ n2_ n3_ n4_;clear ho hb hg hat)|((with_reducible refine gate_callee (f:=36) rfl ?_);refine goesL_ (some 71) rfl rfl Try.func36 (by kernel_rfl) rfl #[.slice (some ad188) t180.length co12,.int .i64 x11_1] rfl (by (try simp only [List.map_toArray,List.map_cons,List.map_nil]);first|done|rfl|(simp only [List.length_drop,List.length_take];rfl)) ?_;(with_reducible refine (convex_way.calls _ _ t180 x11_1 t196 t197 _ ?side1 ?side2 A21.out).mono ?_);(case side1=>repeat (first|exact (Kd.R_reads' HO_6.out).2.2|(with_reducible refine Kd.C_alloc ?_ _)|(with_reducible refine Kd.C_drewN ?_ _)|(with_reducible refine Kd.C_drew ?_)));(case side2=>exact (Kd.R_reads' HO_6.out).2.1);rintro e w26 ⟨rfl,hb⟩;refine ⟨_,rfl,?_⟩;have n0_:=Aside0.mk (Kd.R_below (by (with_reducible repeat (first|apply ra_|apply rn_|apply rd_));exact HO_6.out) hb);have n1_:=Aside0.mk (Kd.R_below (by (with_reducible repeat (first|apply ra_|apply rn_|apply rd_));exact HO_8.out) hb);have n2_:=Aside0.mk (Kd.R_below (by (with_reducible repeat (first|apply ra_|apply rn_|apply rd_));exact HO195.out) hb);have n3_:=Aside0.mk (blk_below (g:=gb192) (o:=.cells #[.int .i64 x193000_1,.int .i64 x193001_1] 30 (0,0)) (by (with_reducible repeat (first|refine kn_ ?_ _|refine kd_ ?_|refine ka_ ?_ _));exact BK192.out) hb);have n4_:=Aside0.mk (below_step (by repeat (first|(with_reducible first|exact HB.out|apply ba_|apply bn_|apply bd_|refine below_set ?_ GE192.out)|exact HB.out)) hb);clear HO_6;clear HO_8;clear HO195;clear BK192;clear HB;have HO_6:=n0_;have HO_8:=n1_;have HO195:=n2_;have BK192:=n3_;have HB:=n4_;clear n0_ n1_ n2_ n3_ n4_;(try clear hb);(try clear hb2);(try clear hk);(try clear hi))|((with_reducible refine gate_callee (f:=36) rfl ?_);refine goesL_ (some 74) rfl rfl Try.func36 (by kernel_rfl) rfl #[.slice (some ad189) t184.length co13,.int .i64 x12_1] rfl (by (try simp only [List.map_toArray,List.map_cons,List.map_nil]);first|done|rfl|(simp only [List.length_drop,List.length_take];rfl)) ?_;(with_reducible refine (convex_way.calls _ _ t184 x12_1 t198 t199 _ ?side1 ?side2 A22.out).mono ?_);(case side1=>repeat (first|exact (Kd.R_reads' HO_8.out).2.2|(with_reducible refine Kd.C_alloc ?_ _)|(with_reducible refine Kd.C_drewN ?_ _)|(with_reducible refine Kd.C_drew ?_)));(case side2=>exact (Kd.R_reads' HO_8.out).2.1);rintro e w27 ⟨rfl,hb⟩;refine ⟨_,rfl,?_⟩;have n0_:=Aside0.mk (Kd.R_below (by (with_reducible repeat (first|apply ra_|apply rn_|apply rd_));exact HO_6.out) hb);have n1_:=Aside0.mk (Kd.R_below (by (with_reducible repeat (first|apply ra_|apply rn_|apply rd_));exact HO_8.out) hb);have n2_:=Aside0.mk (Kd.R_below (by (with_reducible repeat (first|apply ra_|apply rn_|apply rd_));exact HO195.out) hb);have n3_:=Aside0.mk (blk_below (g:=gb192) (o:=.cells #[.int .i64 x193000_1,.int .i64 x193001_1] 30 (0,0)) (by (with_reducible repeat (first|refine kn_ ?_ _|refine kd_ ?_|refine ka_ ?_ _));exact BK192.out) hb);have n4_:=Aside0.mk (below_step (by repeat (first|(with_reducible first|exact HB.out|apply ba_|apply bn_|apply bd_|refine below_set ?_ GE192.out)|exact HB.out)) hb);clear HO_6;clear HO_8;clear HO195;clear BK192;clear HB;have HO_6:=n0_;have HO_8:=n1_;have HO195:=n2_;have BK192:=n3_;have HB:=n4_;clear n0_ n1_ n2_ n3_ n4_;(try clear hb);(try clear hb2);(try clear hk);(try clear hi))|((with_reducible refine gate_dst (N:=13) rfl ?_);(try (refine gate_guard (by rfl) ?_;dsimp only));refine box_event ?hg (N:=13) ?hd (cs:=#[.int .i64 0,.int .i64 0]) (t:=30) ?hr ?_;(case hd=>rfl);(case hg=>rfl);(case hr=>first|(go_simp;done)|(go_simp;rfl));intro gb200 hg w28 hbox hb;have n0_:=Aside0.mk (Kd.R_below (Kd.R_elderB (by (with_reducible repeat (first|apply ra_|apply rn_|apply rd_));exact HO_6.out) gb200 (Nat.le_of_eq hg.symm)) hb);have n1_:=Aside0.mk (Kd.R_below (Kd.R_elderB (by (with_reducible repeat (first|apply ra_|apply rn_|apply rd_));exact HO_8.out) gb200 (Nat.le_of_eq hg.symm)) hb);have n2_:=Aside0.mk (Kd.R_below (Kd.R_elderB (by (with_reducible repeat (first|apply ra_|apply rn_|apply rd_));exact HO195.out) gb200 (Nat.le_of_eq hg.symm)) hb);have n3_:=Aside0.mk (blk_below (g:=gb192) (o:=.cells #[.int .i64 x193000_1,.int .i64 x193001_1] 30 (0,0)) (by (with_reducible repeat (first|refine kn_ ?_ _|refine kd_ ?_|refine ka_ ?_ _));exact BK192.out) hb);have n4_:=Aside0.mk (below_step (by repeat (first|(with_reducible first|exact HB.out|apply ba_|apply bn_|apply bd_|refine below_set ?_ GE192.out)|exact HB.out)) hb);have n5_:=Aside0.mk (hbox);have n6_:=Aside0.mk ((by rw [hg];exact (below_size (by repeat (first|(with_reducible first|exact HB.out|apply ba_|apply bn_|apply bd_|refine below_set ?_ GE192.out)|exact HB.out))) : w.heap.size ≤ gb200));have n7_:=Aside0.mk ((by rw [hg];exact (below_size (by repeat (first|(with_reducible first|exact HB.out|apply ba_|apply bn_|apply bd_|refine below_set ?_ GE192.out)|exact HB.out))) : w.heap.size ≤ gb200));have n8_:=Aside0.mk ((by rw [hg];exact Nat.ne_of_lt (blk_lt (g:=gb192) (o:=.cells #[.int .i64 x193000_1,.int .i64 x193001_1] 30 (0,0)) (by (with_reducible repeat (first|refine kn_ ?_ _|refine kd_ ?_|refine ka_ ?_ _));exact BK192.out)) : gb192 ≠ gb200));have n9_:=Aside0.mk ((by rw [hg];exact Nat.ne_of_gt (blk_lt (g:=gb192) (o:=.cells #[.int .i64 x193000_1,.int .i64 x193001_1] 30 (0,0)) (by (with_reducible repeat (first|refine kn_ ?_ _|refine kd_ ?_|refine ka_ ?_ _));exact BK192.out)) : gb200 ≠ gb192));clear HO_6;clear HO_8;clear HO195;clear BK192;clear HB;have HO_6:=n0_;have HO_8:=n1_;have HO195:=n2_;have BK192:=n3_;have HB:=n4_;have BK200:=n5_;have GW200:=n6_;have GE200:=n7_;have NB192_200:=n8_;have NB200_192:=n9_;clear n0_ n1_ n2_ n3_ n4_ n5_ n6_ n7_ n8_ n9_;clear hb hbox hg)|((with_reducible refine gate_dst (N:=14) rfl ?_);(try (refine gate_guard (by rfl) ?_;dsimp only));refine box_event ?hg (N:=14) ?hd (cs:=#[.int .i64 0,.int .i64 0]) (t:=30) ?hr ?_;(case hd=>rfl);(case hg=>rfl);(case hr=>first|(go_simp;done)|(go_simp;rfl));intro gb201 hg w29 hbox hb;have n0_:=Aside0.mk (Kd.R_below (Kd.R_elderB (by (with_reducible repeat (first|apply ra_|apply rn_|apply rd_));exact HO_6.out) gb201 (Nat.le_of_eq hg.symm)) hb);have n1_:=Aside0.mk (Kd.R_below (Kd.R_elderB (by (with_reducible repeat (first|apply ra_|apply rn_|apply rd_));exact HO_8.out) gb201 (Nat.le_of_eq hg.symm)) hb);have n2_:=Aside0.mk (Kd.R_below (Kd.R_elderB (by (with_reducible repeat (first|apply ra_|apply rn_|apply rd_));exact HO195.out) gb201 (Nat.le_of_eq hg.symm)) hb);have n3_:=Aside0.mk (blk_below (g:=gb192) (o:=.cells #[.int .i64 x193000_1,.int .i64 x193001_1] 30 (0,0)) (by (with_reducible repeat (first|refine kn_ ?_ _|refine kd_ ?_|refine ka_ ?_ _));exact BK192.out) hb);have n4_:=Aside0.mk (blk_below (g:=gb200) (o:=.cells #[.int .i64 0,.int .i64 0] 30 (0,0)) (by (with_reducible repeat (first|refine kn_ ?_ _|refine kd_ ?_|refine ka_ ?_ _));exact BK200.out) hb);have n5_:=Aside0.mk (below_step (by repeat (first|(with_reducible first|exact HB.out|apply ba_|apply bn_|apply bd_|refine below_set ?_ GE192.out|refine below_set ?_ GE200.out)|exact HB.out)) hb);have n6_:=Aside0.mk (hbox);have n7_:=Aside0.mk ((by rw [hg];exact (below_size (by repeat (first|(with_reducible first|exact HB.out|apply ba_|apply bn_|apply bd_|refine below_set ?_ GE192.out|refine below_set ?_ GE200.out)|exact HB.out))) : w.heap.size ≤ gb201));have n8_:=Aside0.mk ((by rw [hg];exact (below_size (by repeat (first|(with_reducible first|exact HB.out|apply ba_|apply bn_|apply bd_|refine below_set ?_ GE192.out|refine below_set ?_ GE200.out)|exact HB.out))) : w.heap.size ≤ gb201));have n9_:=Aside0.mk ((by rw [hg];exact Nat.ne_of_lt (blk_lt (g:=gb192) (o:=.cells #[.int .i64 x193000_1,.int .i64 x193001_1] 30 (0,0)) (by (with_reducible repeat (first|refine kn_ ?_ _|refine kd_ ?_|refine ka_ ?_ _));exact BK192.out)) : gb192 ≠ gb201));have n10_:=Aside0.mk ((by rw [hg];exact Nat.ne_of_gt (blk_lt (g:=gb192) (o:=.cells #[.int .i64 x193000_1,.int .i64 x193001_1] 30 (0,0)) (by (with_reducible repeat (first|refine kn_ ?_ _|refine kd_ ?_|refine ka_ ?_ _));exact BK192.out)) : gb201 ≠ gb192));have n11_:=Aside0.mk ((by rw [hg];exact Nat.ne_of_lt (blk_lt (g:=gb200) (o:=.cells #[.int .i64 0,.int .i64 0] 30 (0,0)) (by (with_reducible repeat (first|refine kn_ ?_ _|refine kd_ ?_|refine ka_ ?_ _));exact BK200.out)) : gb200 ≠ gb201));have n12_:=Aside0.mk ((by rw [hg];exact Nat.ne_of_gt (blk_lt (g:=gb200) (o:=.cells #[.int .i64 0,.int .i64 0] 30 (0,0)) (by (with_reducible repeat (first|refine kn_ ?_ _|refine kd_ ?_|refine ka_ ?_ _));exact BK200.out)) : gb201 ≠ gb200));clear HO_6;clear HO_8;clear HO195;clear BK192;clear BK200;clear HB;have HO_6:=n0_;have HO_8:=n1_;have HO195:=n2_;have BK192:=n3_;have BK200:=n4_;have HB:=n5_;have BK201:=n6_;have GW201:=n7_;have GE201:=n8_;have NB192_201:=n9_;have NB201_192:=n10_;have NB200_201:=n11_;have NB201_200:=n12_;clear n0_ n1_ n2_ n3_ n4_ n5_ n6_ n7_ n8_ n9_ n10_ n11_ n12_;clear hb hbox hg;have hnb30:=NB200_192.out;have hnc30:=NB192_200.out;have hnb31:=NB200_201.out;have hnc31:=NB201_200.out;have hcz32_0 : w29.cell? ⟨gb200,0,none⟩ = some (.int .i64 0):=(blk_cell BK200.out 0).trans rfl;have hcz32_1 : w29.cell? ⟨gb200,1,none⟩ = some (.int .i64 0):=(blk_cell BK200.out 1).trans rfl;have hfz32_0:=blk_frozen BK200.out 0;have hfz32_1:=blk_frozen BK200.out 1;have hnb33:=NB201_192.out;have hnc33:=NB192_201.out;have hcz34_0 : w29.cell? ⟨gb201,0,none⟩ = some (.int .i64 0):=(blk_cell BK201.out 0).trans rfl;have hcz34_1 : w29.cell? ⟨gb201,1,none⟩ = some (.int .i64 0):=(blk_cell BK201.out 1).trans rfl;have hfz34_0:=blk_frozen BK201.out 0;have hfz34_1:=blk_frozen BK201.out 1))
           (try simp only [Act.put,la_,l0_,l1_])
           go_cut [16] (fun v16 wc=>∃ (kq : Nat) (x16_22 : Bool),v16 = .bool x16_22∧Aside0 (convex_Sum.j2 kq t180 t184 y193 x11_1 x12_1 (wrap64 ((wrap64 (t196 * t199)) - (wrap64 (t197 * t198)))) x16_22 x193000_1 x193001_1 t196 t197 t198 t199 = some (r1,r2))∧Aside0 (kq ≤ kj16)∧Aside0 (Kd.R k30 30 wc w.heap.size (fun k_=>some k_ ≠ ((.slice (some ad189) t184.length co13) : Value).ownBlock∧some k_ ≠ (v194 : Value).ownBlock∧k_ ≠ gb192∧k_ ≠ gb200∧k_ ≠ gb201) (.slice (some ad188) t180.length co12) t180)∧Aside0 (Kd.R k30 30 wc w.heap.size (fun k_=>some k_ ≠ ((.slice (some ad188) t180.length co12) : Value).ownBlock∧some k_ ≠ (v194 : Value).ownBlock∧k_ ≠ gb192∧k_ ≠ gb200∧k_ ≠ gb201) (.slice (some ad189) t184.length co13) t184)∧Aside0 (Kd.R k30 30 wc w.heap.size (fun k_=>some k_ ≠ ((.slice (some ad188) t180.length co12) : Value).ownBlock∧some k_ ≠ ((.slice (some ad189) t184.length co13) : Value).ownBlock∧k_ ≠ gb192∧k_ ≠ gb200∧k_ ≠ gb201) v194 y193)∧Aside0 (wc.heap[gb192]? = some (.cells #[.int .i64 x193000_1,.int .i64 x193001_1] 30 (0,0)))∧Aside0 (wc.heap[gb200]? = some (.cells #[.int .i64 t196,.int .i64 t197] 30 (0,0)))∧Aside0 (wc.heap[gb201]? = some (.cells #[.int .i64 t198,.int .i64 t199] 30 (0,0)))∧Aside0 (Below w.heap.size w wc))
           case first =>
            have H:=HC23.out
            clear HC23
            by_cases c35 : x12_1 = (t184.length : Int)
            ·
             rw [if_pos c35] at H
             have c35b0 : (x12_1 == (t184.length : Int)) = true:=beq_iff_eq.mpr c35
             have c35b1 : (x12_1 != (t184.length : Int)) = false:=bne_eq_false_iff_eq.mpr c35
             clear c35
             (first|rw [c35b0]|(simp only [i64_w,i32_w];rw [c35b0])|skip)
             have H':=Aside0.mk H
             clear H
             go_wp2
             go_meet
             case rel=>exact ⟨_,(true),(by first|rfl|(simp;done)|(simp [*];done)),H',⟨by have:=HK1.out;have:=HJ16.out;first|omega|exact Nat.le_refl _⟩,⟨by (with_reducible repeat (first|apply ra_|apply rn_|apply rd_));exact Kd.R_mono (Kd.R_far (p:=⟨gb201,1,none⟩) (Kd.R_far (p:=⟨gb201,0,none⟩) (Kd.R_far (p:=⟨gb200,1,none⟩) (Kd.R_far (p:=⟨gb200,0,none⟩) (Kd.R_mono (Kd.R_mono HO_6.out (fun k_ hk=>(⟨hk,hk.1.2⟩ : _∧k_ ≠ gb200))) (fun k_ hk=>(⟨hk,hk.1.2⟩ : _∧k_ ≠ gb201))) (fun _ hk=>hk.1.2) (.int .i64 t196)) (fun _ hk=>hk.1.2) (.int .i64 t197)) (fun _ hk=>hk.2) (.int .i64 t198)) (fun _ hk=>hk.2) (.int .i64 t199)) (fun _ hk=>⟨hk.1.1.1.1.1.1,⟨hk.1.1.1.1.2,⟨hk.1.1.1.1.1.2,⟨hk.1.1.1.2,hk.1.1.2⟩⟩⟩⟩)⟩,⟨by (with_reducible repeat (first|apply ra_|apply rn_|apply rd_));exact Kd.R_mono (Kd.R_far (p:=⟨gb201,1,none⟩) (Kd.R_far (p:=⟨gb201,0,none⟩) (Kd.R_far (p:=⟨gb200,1,none⟩) (Kd.R_far (p:=⟨gb200,0,none⟩) (Kd.R_mono (Kd.R_mono HO_8.out (fun k_ hk=>(⟨hk,hk.1.2⟩ : _∧k_ ≠ gb200))) (fun k_ hk=>(⟨hk,hk.1.2⟩ : _∧k_ ≠ gb201))) (fun _ hk=>hk.1.2) (.int .i64 t196)) (fun _ hk=>hk.1.2) (.int .i64 t197)) (fun _ hk=>hk.2) (.int .i64 t198)) (fun _ hk=>hk.2) (.int .i64 t199)) (fun _ hk=>⟨hk.1.1.1.1.1.1,⟨hk.1.1.1.1.2,⟨hk.1.1.1.1.1.2,⟨hk.1.1.1.2,hk.1.1.2⟩⟩⟩⟩)⟩,⟨by (with_reducible repeat (first|apply ra_|apply rn_|apply rd_));exact Kd.R_mono (Kd.R_far (p:=⟨gb201,1,none⟩) (Kd.R_far (p:=⟨gb201,0,none⟩) (Kd.R_far (p:=⟨gb200,1,none⟩) (Kd.R_far (p:=⟨gb200,0,none⟩) (Kd.R_mono (Kd.R_mono HO195.out (fun k_ hk=>(⟨hk,hk.1.2⟩ : _∧k_ ≠ gb200))) (fun k_ hk=>(⟨hk,hk.1.2⟩ : _∧k_ ≠ gb201))) (fun _ hk=>hk.1.2) (.int .i64 t196)) (fun _ hk=>hk.1.2) (.int .i64 t197)) (fun _ hk=>hk.2) (.int .i64 t198)) (fun _ hk=>hk.2) (.int .i64 t199)) (fun _ hk=>⟨hk.1.1.1.1.1,⟨hk.1.1.1.1.2.1,⟨hk.1.1.1.1.2.2,⟨hk.1.1.1.2,hk.1.1.2⟩⟩⟩⟩)⟩,⟨by (with_reducible repeat (first|refine kn_ ?_ _|refine kd_ ?_|refine ka_ ?_ _));refine blk_far ?_ NB192_201.out _;(with_reducible repeat (first|refine kn_ ?_ _|refine kd_ ?_|refine ka_ ?_ _));refine blk_far ?_ NB192_201.out _;(with_reducible repeat (first|refine kn_ ?_ _|refine kd_ ?_|refine ka_ ?_ _));refine blk_far ?_ NB192_200.out _;(with_reducible repeat (first|refine kn_ ?_ _|refine kd_ ?_|refine ka_ ?_ _));refine blk_far ?_ NB192_200.out _;(with_reducible repeat (first|refine kn_ ?_ _|refine kd_ ?_|refine ka_ ?_ _));exact BK192.out⟩,⟨by (with_reducible repeat (first|refine kn_ ?_ _|refine kd_ ?_|refine ka_ ?_ _));refine blk_far ?_ NB200_201.out _;(with_reducible repeat (first|refine kn_ ?_ _|refine kd_ ?_|refine ka_ ?_ _));refine blk_far ?_ NB200_201.out _;(with_reducible repeat (first|refine kn_ ?_ _|refine kd_ ?_|refine ka_ ?_ _));refine blk_put (cs:=#[.int .i64 t196,.int .i64 0]) ?_ 1 _ rfl;(with_reducible repeat (first|refine kn_ ?_ _|refine kd_ ?_|refine ka_ ?_ _));refine blk_put (cs:=#[.int .i64 0,.int .i64 0]) ?_ 0 _ rfl;(with_reducible repeat (first|refine kn_ ?_ _|refine kd_ ?_|refine ka_ ?_ _));exact BK200.out⟩,⟨by (with_reducible repeat (first|refine kn_ ?_ _|refine kd_ ?_|refine ka_ ?_ _));refine blk_put (cs:=#[.int .i64 t198,.int .i64 0]) ?_ 1 _ rfl;(with_reducible repeat (first|refine kn_ ?_ _|refine kd_ ?_|refine ka_ ?_ _));refine blk_put (cs:=#[.int .i64 0,.int .i64 0]) ?_ 0 _ rfl;(with_reducible repeat (first|refine kn_ ?_ _|refine kd_ ?_|refine ka_ ?_ _));refine blk_far ?_ NB201_200.out _;(with_reducible repeat (first|refine kn_ ?_ _|refine kd_ ?_|refine ka_ ?_ _));refine blk_far ?_ NB201_200.out _;(with_reducible repeat (first|refine kn_ ?_ _|refine kd_ ?_|refine ka_ ?_ _));exact BK201.out⟩,⟨by repeat (first|(with_reducible first|exact HB.out|apply ba_|apply bn_|apply bd_|refine below_set ?_ GE192.out|refine below_set ?_ GE200.out|refine below_set ?_ GE201.out)|exact HB.out)⟩⟩
            rw [if_neg c35] at H
            have c35b0 : (x12_1 == (t184.length : Int)) = false:=beq_eq_false_iff_ne.mpr c35
            have c35b1 : (x12_1 != (t184.length : Int)) = true:=bne_iff_ne.mpr c35
            (first|rw [c35b0]|(simp only [i64_w,i32_w];rw [c35b0])|skip)
            by_cases c36 : x11_1 < (t180.length : Int)
            ·
             rw [if_pos c36] at H
             have c36b0 : decide (x11_1 < (t180.length : Int)) = true:=decide_eq_true c36
             clear c36
             have H':=Aside0.mk H
             clear H
             go_wp2
             go_meet
             case rel=>exact ⟨_,(decide ((wrap64 ((wrap64 (t196 * t199)) - (wrap64 (t197 * t198)))) ≥ 0)),(by first|rfl|(simp;done)|(simp [*];done)),H',⟨by have:=HK1.out;have:=HJ16.out;first|omega|exact Nat.le_refl _⟩,⟨by (with_reducible repeat (first|apply ra_|apply rn_|apply rd_));exact Kd.R_mono (Kd.R_far (p:=⟨gb201,1,none⟩) (Kd.R_far (p:=⟨gb201,0,none⟩) (Kd.R_far (p:=⟨gb200,1,none⟩) (Kd.R_far (p:=⟨gb200,0,none⟩) (Kd.R_mono (Kd.R_mono HO_6.out (fun k_ hk=>(⟨hk,hk.1.2⟩ : _∧k_ ≠ gb200))) (fun k_ hk=>(⟨hk,hk.1.2⟩ : _∧k_ ≠ gb201))) (fun _ hk=>hk.1.2) (.int .i64 t196)) (fun _ hk=>hk.1.2) (.int .i64 t197)) (fun _ hk=>hk.2) (.int .i64 t198)) (fun _ hk=>hk.2) (.int .i64 t199)) (fun _ hk=>⟨hk.1.1.1.1.1.1,⟨hk.1.1.1.1.2,⟨hk.1.1.1.1.1.2,⟨hk.1.1.1.2,hk.1.1.2⟩⟩⟩⟩)⟩,⟨by (with_reducible repeat (first|apply ra_|apply rn_|apply rd_));exact Kd.R_mono (Kd.R_far (p:=⟨gb201,1,none⟩) (Kd.R_far (p:=⟨gb201,0,none⟩) (Kd.R_far (p:=⟨gb200,1,none⟩) (Kd.R_far (p:=⟨gb200,0,none⟩) (Kd.R_mono (Kd.R_mono HO_8.out (fun k_ hk=>(⟨hk,hk.1.2⟩ : _∧k_ ≠ gb200))) (fun k_ hk=>(⟨hk,hk.1.2⟩ : _∧k_ ≠ gb201))) (fun _ hk=>hk.1.2) (.int .i64 t196)) (fun _ hk=>hk.1.2) (.int .i64 t197)) (fun _ hk=>hk.2) (.int .i64 t198)) (fun _ hk=>hk.2) (.int .i64 t199)) (fun _ hk=>⟨hk.1.1.1.1.1.1,⟨hk.1.1.1.1.2,⟨hk.1.1.1.1.1.2,⟨hk.1.1.1.2,hk.1.1.2⟩⟩⟩⟩)⟩,⟨by (with_reducible repeat (first|apply ra_|apply rn_|apply rd_));exact Kd.R_mono (Kd.R_far (p:=⟨gb201,1,none⟩) (Kd.R_far (p:=⟨gb201,0,none⟩) (Kd.R_far (p:=⟨gb200,1,none⟩) (Kd.R_far (p:=⟨gb200,0,none⟩) (Kd.R_mono (Kd.R_mono HO195.out (fun k_ hk=>(⟨hk,hk.1.2⟩ : _∧k_ ≠ gb200))) (fun k_ hk=>(⟨hk,hk.1.2⟩ : _∧k_ ≠ gb201))) (fun _ hk=>hk.1.2) (.int .i64 t196)) (fun _ hk=>hk.1.2) (.int .i64 t197)) (fun _ hk=>hk.2) (.int .i64 t198)) (fun _ hk=>hk.2) (.int .i64 t199)) (fun _ hk=>⟨hk.1.1.1.1.1,⟨hk.1.1.1.1.2.1,⟨hk.1.1.1.1.2.2,⟨hk.1.1.1.2,hk.1.1.2⟩⟩⟩⟩)⟩,⟨by (with_reducible repeat (first|refine kn_ ?_ _|refine kd_ ?_|refine ka_ ?_ _));refine blk_far ?_ NB192_201.out _;(with_reducible repeat (first|refine kn_ ?_ _|refine kd_ ?_|refine ka_ ?_ _));refine blk_far ?_ NB192_201.out _;(with_reducible repeat (first|refine kn_ ?_ _|refine kd_ ?_|refine ka_ ?_ _));refine blk_far ?_ NB192_200.out _;(with_reducible repeat (first|refine kn_ ?_ _|refine kd_ ?_|refine ka_ ?_ _));refine blk_far ?_ NB192_200.out _;(with_reducible repeat (first|refine kn_ ?_ _|refine kd_ ?_|refine ka_ ?_ _));exact BK192.out⟩,⟨by (with_reducible repeat (first|refine kn_ ?_ _|refine kd_ ?_|refine ka_ ?_ _));refine blk_far ?_ NB200_201.out _;(with_reducible repeat (first|refine kn_ ?_ _|refine kd_ ?_|refine ka_ ?_ _));refine blk_far ?_ NB200_201.out _;(with_reducible repeat (first|refine kn_ ?_ _|refine kd_ ?_|refine ka_ ?_ _));refine blk_put (cs:=#[.int .i64 t196,.int .i64 0]) ?_ 1 _ rfl;(with_reducible repeat (first|refine kn_ ?_ _|refine kd_ ?_|refine ka_ ?_ _));refine blk_put (cs:=#[.int .i64 0,.int .i64 0]) ?_ 0 _ rfl;(with_reducible repeat (first|refine kn_ ?_ _|refine kd_ ?_|refine ka_ ?_ _));exact BK200.out⟩,⟨by (with_reducible repeat (first|refine kn_ ?_ _|refine kd_ ?_|refine ka_ ?_ _));refine blk_put (cs:=#[.int .i64 t198,.int .i64 0]) ?_ 1 _ rfl;(with_reducible repeat (first|refine kn_ ?_ _|refine kd_ ?_|refine ka_ ?_ _));refine blk_put (cs:=#[.int .i64 0,.int .i64 0]) ?_ 0 _ rfl;(with_reducible repeat (first|refine kn_ ?_ _|refine kd_ ?_|refine ka_ ?_ _));refine blk_far ?_ NB201_200.out _;(with_reducible repeat (first|refine kn_ ?_ _|refine kd_ ?_|refine ka_ ?_ _));refine blk_far ?_ NB201_200.out _;(with_reducible repeat (first|refine kn_ ?_ _|refine kd_ ?_|refine ka_ ?_ _));exact BK201.out⟩,⟨by repeat (first|(with_reducible first|exact HB.out|apply ba_|apply bn_|apply bd_|refine below_set ?_ GE192.out|refine below_set ?_ GE200.out|refine below_set ?_ GE201.out)|exact HB.out)⟩⟩
            rw [if_neg c36] at H
            have c36b0 : decide (x11_1 < (t180.length : Int)) = false:=decide_eq_false c36
            clear c36
            have H':=Aside0.mk H
            clear H
            go_wp2
            go_meet
            case rel=>exact ⟨_,(false),(by first|rfl|(simp;done)|(simp [*];done)),H',⟨by have:=HK1.out;have:=HJ16.out;first|omega|exact Nat.le_refl _⟩,⟨by (with_reducible repeat (first|apply ra_|apply rn_|apply rd_));exact Kd.R_mono (Kd.R_far (p:=⟨gb201,1,none⟩) (Kd.R_far (p:=⟨gb201,0,none⟩) (Kd.R_far (p:=⟨gb200,1,none⟩) (Kd.R_far (p:=⟨gb200,0,none⟩) (Kd.R_mono (Kd.R_mono HO_6.out (fun k_ hk=>(⟨hk,hk.1.2⟩ : _∧k_ ≠ gb200))) (fun k_ hk=>(⟨hk,hk.1.2⟩ : _∧k_ ≠ gb201))) (fun _ hk=>hk.1.2) (.int .i64 t196)) (fun _ hk=>hk.1.2) (.int .i64 t197)) (fun _ hk=>hk.2) (.int .i64 t198)) (fun _ hk=>hk.2) (.int .i64 t199)) (fun _ hk=>⟨hk.1.1.1.1.1.1,⟨hk.1.1.1.1.2,⟨hk.1.1.1.1.1.2,⟨hk.1.1.1.2,hk.1.1.2⟩⟩⟩⟩)⟩,⟨by (with_reducible repeat (first|apply ra_|apply rn_|apply rd_));exact Kd.R_mono (Kd.R_far (p:=⟨gb201,1,none⟩) (Kd.R_far (p:=⟨gb201,0,none⟩) (Kd.R_far (p:=⟨gb200,1,none⟩) (Kd.R_far (p:=⟨gb200,0,none⟩) (Kd.R_mono (Kd.R_mono HO_8.out (fun k_ hk=>(⟨hk,hk.1.2⟩ : _∧k_ ≠ gb200))) (fun k_ hk=>(⟨hk,hk.1.2⟩ : _∧k_ ≠ gb201))) (fun _ hk=>hk.1.2) (.int .i64 t196)) (fun _ hk=>hk.1.2) (.int .i64 t197)) (fun _ hk=>hk.2) (.int .i64 t198)) (fun _ hk=>hk.2) (.int .i64 t199)) (fun _ hk=>⟨hk.1.1.1.1.1.1,⟨hk.1.1.1.1.2,⟨hk.1.1.1.1.1.2,⟨hk.1.1.1.2,hk.1.1.2⟩⟩⟩⟩)⟩,⟨by (with_reducible repeat (first|apply ra_|apply rn_|apply rd_));exact Kd.R_mono (Kd.R_far (p:=⟨gb201,1,none⟩) (Kd.R_far (p:=⟨gb201,0,none⟩) (Kd.R_far (p:=⟨gb200,1,none⟩) (Kd.R_far (p:=⟨gb200,0,none⟩) (Kd.R_mono (Kd.R_mono HO195.out (fun k_ hk=>(⟨hk,hk.1.2⟩ : _∧k_ ≠ gb200))) (fun k_ hk=>(⟨hk,hk.1.2⟩ : _∧k_ ≠ gb201))) (fun _ hk=>hk.1.2) (.int .i64 t196)) (fun _ hk=>hk.1.2) (.int .i64 t197)) (fun _ hk=>hk.2) (.int .i64 t198)) (fun _ hk=>hk.2) (.int .i64 t199)) (fun _ hk=>⟨hk.1.1.1.1.1,⟨hk.1.1.1.1.2.1,⟨hk.1.1.1.1.2.2,⟨hk.1.1.1.2,hk.1.1.2⟩⟩⟩⟩)⟩,⟨by (with_reducible repeat (first|refine kn_ ?_ _|refine kd_ ?_|refine ka_ ?_ _));refine blk_far ?_ NB192_201.out _;(with_reducible repeat (first|refine kn_ ?_ _|refine kd_ ?_|refine ka_ ?_ _));refine blk_far ?_ NB192_201.out _;(with_reducible repeat (first|refine kn_ ?_ _|refine kd_ ?_|refine ka_ ?_ _));refine blk_far ?_ NB192_200.out _;(with_reducible repeat (first|refine kn_ ?_ _|refine kd_ ?_|refine ka_ ?_ _));refine blk_far ?_ NB192_200.out _;(with_reducible repeat (first|refine kn_ ?_ _|refine kd_ ?_|refine ka_ ?_ _));exact BK192.out⟩,⟨by (with_reducible repeat (first|refine kn_ ?_ _|refine kd_ ?_|refine ka_ ?_ _));refine blk_far ?_ NB200_201.out _;(with_reducible repeat (first|refine kn_ ?_ _|refine kd_ ?_|refine ka_ ?_ _));refine blk_far ?_ NB200_201.out _;(with_reducible repeat (first|refine kn_ ?_ _|refine kd_ ?_|refine ka_ ?_ _));refine blk_put (cs:=#[.int .i64 t196,.int .i64 0]) ?_ 1 _ rfl;(with_reducible repeat (first|refine kn_ ?_ _|refine kd_ ?_|refine ka_ ?_ _));refine blk_put (cs:=#[.int .i64 0,.int .i64 0]) ?_ 0 _ rfl;(with_reducible repeat (first|refine kn_ ?_ _|refine kd_ ?_|refine ka_ ?_ _));exact BK200.out⟩,⟨by (with_reducible repeat (first|refine kn_ ?_ _|refine kd_ ?_|refine ka_ ?_ _));refine blk_put (cs:=#[.int .i64 t198,.int .i64 0]) ?_ 1 _ rfl;(with_reducible repeat (first|refine kn_ ?_ _|refine kd_ ?_|refine ka_ ?_ _));refine blk_put (cs:=#[.int .i64 0,.int .i64 0]) ?_ 0 _ rfl;(with_reducible repeat (first|refine kn_ ?_ _|refine kd_ ?_|refine ka_ ?_ _));refine blk_far ?_ NB201_200.out _;(with_reducible repeat (first|refine kn_ ?_ _|refine kd_ ?_|refine ka_ ?_ _));refine blk_far ?_ NB201_200.out _;(with_reducible repeat (first|refine kn_ ?_ _|refine kd_ ?_|refine ka_ ?_ _));exact BK201.out⟩,⟨by repeat (first|(with_reducible first|exact HB.out|apply ba_|apply bn_|apply bd_|refine below_set ?_ GE192.out|refine below_set ?_ GE200.out|refine below_set ?_ GE201.out)|exact HB.out)⟩⟩
           case rest =>
            clear HC23
            try clear c1
            try clear p1
            try clear q1
            try clear hx1
            try clear qi1
            try clear c2
            try clear p2
            try clear c3
            try clear c4
            try clear c4b0
            try clear c4b1
            try clear c6
            try clear c6b0
            try clear c6b1
            try clear p6
            try clear c7
            try clear c7b0
            try clear c7b1
            try clear c8
            try clear c8b0
            try clear c8b1
            try clear c11
            try clear c18
            try clear c18b0
            try clear p18
            try clear q18
            try clear hx18
            try clear qi18
            try clear c19
            try clear p19
            try clear q19
            try clear hx19
            try clear qi19
            try clear c20
            try clear c22
            try clear c30
            try clear c31
            try clear c33
            try clear c35
            try clear c35b0
            try clear c35b1
            try clear c36
            try clear c36b0
            try clear hcz24_0
            try clear hcz24_1
            try clear hcz32_0
            try clear hcz32_1
            try clear hcz34_0
            try clear hcz34_1
            try clear hfz24_0
            try clear hfz24_1
            try clear hfz32_0
            try clear hfz32_1
            try clear hfz34_0
            try clear hfz34_1
            try clear hx188_0
            try clear hx188_1
            try clear hx189_0
            try clear hx189_1
            try clear hx190_0
            try clear hx190_1
            try clear hx191_0
            try clear hx191_1
            try clear p1
            try clear p18
            try clear p188
            try clear p189
            try clear p190
            try clear p191
            try clear p2
            try clear p6
            try clear q1
            try clear q18
            try clear q188
            try clear q189
            try clear q190
            try clear q191
            obtain ⟨kq,x16_22,rfl,HA,HJ22,HO_6,HO_8,HO_9,BK192,BK200,BK201,HB⟩:=hcut
            cases kq with
            | zero=>exact absurd HA.out (by simp [convex_Sum.j2])
            | succ kj22 =>
             have H:=HA.out
             clear HA
             simp only [convex_Sum.j2] at H
             have HC37:=Aside0.mk H
             clear H
             go_upto_region 15 with (fail)
             go_cut [17] (fun v17 wc=>∃ (kq : Nat) (x17_36 : Bool),v17 = .bool x17_36∧Aside0 (convex_Sum.j3 kq t180 t184 y193 x11_1 x12_1 x16_22 x17_36 x193000_1 x193001_1 t196 t197 t198 t199 = some (r1,r2))∧Aside0 (kq ≤ kj22)∧Aside0 (Kd.R k30 30 wc w.heap.size (fun k_=>some k_ ≠ ((.slice (some ad189) t184.length co13) : Value).ownBlock∧some k_ ≠ (v194 : Value).ownBlock∧k_ ≠ gb192∧k_ ≠ gb200∧k_ ≠ gb201) (.slice (some ad188) t180.length co12) t180)∧Aside0 (Kd.R k30 30 wc w.heap.size (fun k_=>some k_ ≠ ((.slice (some ad188) t180.length co12) : Value).ownBlock∧some k_ ≠ (v194 : Value).ownBlock∧k_ ≠ gb192∧k_ ≠ gb200∧k_ ≠ gb201) (.slice (some ad189) t184.length co13) t184)∧Aside0 (Kd.R k30 30 wc w.heap.size (fun k_=>some k_ ≠ ((.slice (some ad188) t180.length co12) : Value).ownBlock∧some k_ ≠ ((.slice (some ad189) t184.length co13) : Value).ownBlock∧k_ ≠ gb192∧k_ ≠ gb200∧k_ ≠ gb201) v194 y193)∧Aside0 (wc.heap[gb192]? = some (.cells #[.int .i64 x193000_1,.int .i64 x193001_1] 30 (0,0)))∧Aside0 (wc.heap[gb200]? = some (.cells #[.int .i64 t196,.int .i64 t197] 30 (0,0)))∧Aside0 (wc.heap[gb201]? = some (.cells #[.int .i64 t198,.int .i64 t199] 30 (0,0)))∧Aside0 (Below w.heap.size w wc))
             case first =>
              have H:=HC37.out
              clear HC37
              by_cases c38 : x11_1 = (t180.length : Int)
              ·
               rw [if_pos c38] at H
               have c38b0 : (x11_1 == (t180.length : Int)) = true:=beq_iff_eq.mpr c38
               have c38b1 : (x11_1 != (t180.length : Int)) = false:=bne_eq_false_iff_eq.mpr c38
               clear c38
               (first|rw [c38b0]|(simp only [i64_w,i32_w];rw [c38b0])|skip)
               have H':=Aside0.mk H
               clear H
               go_wp2
               go_meet
               case rel=>exact ⟨_,(true),(by first|rfl|(simp;done)|(simp [*];done)),H',⟨by have:=HK1.out;have:=HJ16.out;have:=HJ22.out;first|omega|exact Nat.le_refl _⟩,⟨by (with_reducible repeat (first|apply ra_|apply rn_|apply rd_));exact HO_6.out⟩,⟨by (with_reducible repeat (first|apply ra_|apply rn_|apply rd_));exact HO_8.out⟩,⟨by (with_reducible repeat (first|apply ra_|apply rn_|apply rd_));exact HO_9.out⟩,⟨by (with_reducible repeat (first|refine kn_ ?_ _|refine kd_ ?_|refine ka_ ?_ _));exact BK192.out⟩,⟨by (with_reducible repeat (first|refine kn_ ?_ _|refine kd_ ?_|refine ka_ ?_ _));exact BK200.out⟩,⟨by (with_reducible repeat (first|refine kn_ ?_ _|refine kd_ ?_|refine ka_ ?_ _));exact BK201.out⟩,⟨by repeat (first|(with_reducible first|exact HB.out|apply ba_|apply bn_|apply bd_|refine below_set ?_ GE192.out|refine below_set ?_ GE200.out|refine below_set ?_ GE201.out)|exact HB.out)⟩⟩
              rw [if_neg c38] at H
              have c38b0 : (x11_1 == (t180.length : Int)) = false:=beq_eq_false_iff_ne.mpr c38
              have c38b1 : (x11_1 != (t180.length : Int)) = true:=bne_iff_ne.mpr c38
              (first|rw [c38b0]|(simp only [i64_w,i32_w];rw [c38b0])|skip)
              by_cases c39 : x12_1 < (t184.length : Int)
              ·
               rw [if_pos c39] at H
               have c39b0 : decide (x12_1 < (t184.length : Int)) = true:=decide_eq_true c39
               clear c39
               have H':=Aside0.mk H
               clear H
               go_wp2
               go_meet
               case rel=>exact ⟨_,(decide ((wrap64 ((wrap64 (t196 * t199)) - (wrap64 (t197 * t198)))) ≤ 0)),(by first|rfl|(simp;done)|(simp [*];done)),H',⟨by have:=HK1.out;have:=HJ16.out;have:=HJ22.out;first|omega|exact Nat.le_refl _⟩,⟨by (with_reducible repeat (first|apply ra_|apply rn_|apply rd_));exact HO_6.out⟩,⟨by (with_reducible repeat (first|apply ra_|apply rn_|apply rd_));exact HO_8.out⟩,⟨by (with_reducible repeat (first|apply ra_|apply rn_|apply rd_));exact HO_9.out⟩,⟨by (with_reducible repeat (first|refine kn_ ?_ _|refine kd_ ?_|refine ka_ ?_ _));exact BK192.out⟩,⟨by (with_reducible repeat (first|refine kn_ ?_ _|refine kd_ ?_|refine ka_ ?_ _));exact BK200.out⟩,⟨by (with_reducible repeat (first|refine kn_ ?_ _|refine kd_ ?_|refine ka_ ?_ _));exact BK201.out⟩,⟨by repeat (first|(with_reducible first|exact HB.out|apply ba_|apply bn_|apply bd_|refine below_set ?_ GE192.out|refine below_set ?_ GE200.out|refine below_set ?_ GE201.out)|exact HB.out)⟩⟩
              rw [if_neg c39] at H
              have c39b0 : decide (x12_1 < (t184.length : Int)) = false:=decide_eq_false c39
              clear c39
              have H':=Aside0.mk H
              clear H
              go_wp2
              go_meet
              case rel=>exact ⟨_,(false),(by first|rfl|(simp;done)|(simp [*];done)),H',⟨by have:=HK1.out;have:=HJ16.out;have:=HJ22.out;first|omega|exact Nat.le_refl _⟩,⟨by (with_reducible repeat (first|apply ra_|apply rn_|apply rd_));exact HO_6.out⟩,⟨by (with_reducible repeat (first|apply ra_|apply rn_|apply rd_));exact HO_8.out⟩,⟨by (with_reducible repeat (first|apply ra_|apply rn_|apply rd_));exact HO_9.out⟩,⟨by (with_reducible repeat (first|refine kn_ ?_ _|refine kd_ ?_|refine ka_ ?_ _));exact BK192.out⟩,⟨by (with_reducible repeat (first|refine kn_ ?_ _|refine kd_ ?_|refine ka_ ?_ _));exact BK200.out⟩,⟨by (with_reducible repeat (first|refine kn_ ?_ _|refine kd_ ?_|refine ka_ ?_ _));exact BK201.out⟩,⟨by repeat (first|(with_reducible first|exact HB.out|apply ba_|apply bn_|apply bd_|refine below_set ?_ GE192.out|refine below_set ?_ GE200.out|refine below_set ?_ GE201.out)|exact HB.out)⟩⟩
             case rest =>
              clear HC37
              try clear c1
              try clear p1
              try clear q1
              try clear hx1
              try clear qi1
              try clear c2
              try clear p2
              try clear c3
              try clear c4
              try clear c4b0
              try clear c4b1
              try clear c6
              try clear c6b0
              try clear c6b1
              try clear p6
              try clear c7
              try clear c7b0
              try clear c7b1
              try clear c8
              try clear c8b0
              try clear c8b1
              try clear c11
              try clear c18
              try clear c18b0
              try clear p18
              try clear q18
              try clear hx18
              try clear qi18
              try clear c19
              try clear p19
              try clear q19
              try clear hx19
              try clear qi19
              try clear c20
              try clear c22
              try clear c30
              try clear c31
              try clear c33
              try clear c35
              try clear c35b0
              try clear c35b1
              try clear c36
              try clear c36b0
              try clear c38
              try clear c38b0
              try clear c38b1
              try clear c39
              try clear c39b0
              try clear hcz24_0
              try clear hcz24_1
              try clear hcz32_0
              try clear hcz32_1
              try clear hcz34_0
              try clear hcz34_1
              try clear hfz24_0
              try clear hfz24_1
              try clear hfz32_0
              try clear hfz32_1
              try clear hfz34_0
              try clear hfz34_1
              try clear hx188_0
              try clear hx188_1
              try clear hx189_0
              try clear hx189_1
              try clear hx190_0
              try clear hx190_1
              try clear hx191_0
              try clear hx191_1
              try clear p1
              try clear p18
              try clear p188
              try clear p189
              try clear p19
              try clear p190
              try clear p191
              try clear p2
              try clear p6
              try clear q1
              try clear q18
              try clear q188
              try clear q189
              try clear q19
              try clear q190
              try clear q191
              obtain ⟨kq,x17_36,rfl,HA,HJ36,HO_6,HO_8,HO_9,BK192,BK200,BK201,HB⟩:=hcut
              cases kq with
              | zero=>exact absurd HA.out (by simp [convex_Sum.j3])
              | succ kj36 =>
               have H:=HA.out
               clear HA
               simp only [convex_Sum.j3] at H
               by_cases c40 : x16_22 = true
               ·
                subst c40
                have H1 : (if x17_36 = true then (convex_Sum.l0 kj36 t180 t184 y193 (wrap64 (x11_1 + 1)) (wrap64 (x12_1 + 1)) (wrap64 ((wrap64 (x193000_1 + t196)) + t198)) (wrap64 ((wrap64 (x193001_1 + t197)) + t199))) else (convex_Sum.l0 kj36 t180 t184 y193 (wrap64 (x11_1 + 1)) x12_1 (wrap64 (x193000_1 + t196)) (wrap64 (x193001_1 + t197)))) = some (r1,r2):=by rw [if_pos rfl] at H;exact H
                clear H
                have H:=H1
                clear H1
                by_cases c41 : x17_36 = true
                ·
                 subst c41
                 have H1 : (convex_Sum.l0 kj36 t180 t184 y193 (wrap64 (x11_1 + 1)) (wrap64 (x12_1 + 1)) (wrap64 ((wrap64 (x193000_1 + t196)) + t198)) (wrap64 ((wrap64 (x193001_1 + t197)) + t199))) = some (r1,r2):=by rw [if_pos rfl] at H;exact H
                 clear H
                 have H:=H1
                 clear H1
                 have H':=Aside0.mk H
                 clear H
                 try go_wp2
                 have n0_:=Aside0.mk (rd_ HO_6.out)
                 have n1_:=Aside0.mk (rd_ HO_8.out)
                 have n2_:=Aside0.mk (rd_ HO_9.out)
                 have n3_:=Aside0.mk (kd_ BK192.out)
                 have n4_:=Aside0.mk (kd_ BK200.out)
                 have n5_:=Aside0.mk (kd_ BK201.out)
                 have n6_:=Aside0.mk (bd_ HB.out)
                 clear HO_6
                 clear HO_8
                 clear HO_9
                 clear BK192
                 clear BK200
                 clear BK201
                 clear HB
                 have HO_6:=n0_
                 have HO_8:=n1_
                 have HO_9:=n2_
                 have BK192:=n3_
                 have BK200:=n4_
                 have BK201:=n5_
                 have HB:=n6_
                 clear n0_ n1_ n2_ n3_ n4_ n5_ n6_
                 refine start_ (n:=14) (S:=fun w'=>w'.cell? ⟨gb192,0,none⟩ = some (.int .i64 x193000_1)∧w'.cell? ⟨gb192,1,none⟩ = some (.int .i64 x193001_1)∧w'.cell? ⟨gb200,0,none⟩ = some (.int .i64 t196)∧w'.cell? ⟨gb200,1,none⟩ = some (.int .i64 t197)) (ds:=[11,13]) #[false,false,false,false,false,false,false,false,false,false,false,false,false,false] (by kernel_rfl) rfl rfl ⟨(blk_cell BK192.out 0).trans rfl,(blk_cell BK192.out 1).trans rfl,(blk_cell BK200.out 0).trans rfl,(blk_cell BK200.out 1).trans rfl⟩ (fun hHeld=>?_);refine with_tabW convex_Sum.tab17 convex_Sum.bits17 (fun HT_ HW_=>?_)
                 generalize wc.drew = w42 at HO_6 HO_8 HO_9 BK192 BK200 BK201 HB hHeld ⊢
                 refine pure_ (i:=0) (N:=some 115) (v:=?_) (a':=?_) #[true,false,false,false,false,false,false,false,false,false,false,false,false,false] rfl rfl (any_of HT_.out (by kernel_rfl)) (fun _ _ _ h=>h) (Or.inl ⟨by rfl,?_⟩) ?_ ?_
                 rotate_left
                 ·
                  intro w'
                  go_simp
                  with_reducible rfl
                 rotate_left
                 ·
                  simp only [Act.put,la_,l0_,l1_,i64_w,i32_w]
                  rfl
                 refine pure_ (i:=2) (N:=some 117) (v:=?_) (a':=?_) #[true,false,true,false,false,false,false,false,false,false,false,false,false,false] rfl rfl (any_of HT_.out (by kernel_rfl)) (fun _ _ _ h=>h) (Or.inl ⟨by rfl,?_⟩) ?_ ?_
                 rotate_left
                 ·
                  intro w'
                  go_simp
                  with_reducible rfl
                 rotate_left
                 ·
                  simp only [Act.put,la_,l0_,l1_,i64_w,i32_w]
                  rfl
                 refine pure_ (i:=5) (N:=some 120) (v:=?_) (a':=?_) #[true,false,true,false,false,true,false,false,false,false,false,false,false,false] rfl rfl (any_of HT_.out (by kernel_rfl)) (fun _ _ _ h=>h) (Or.inl ⟨by rfl,?_⟩) ?_ ?_
                 rotate_left
                 ·
                  intro w'
                  go_simp
                  with_reducible rfl
                 rotate_left
                 ·
                  simp only [Act.put,la_,l0_,l1_,i64_w,i32_w]
                  rfl
                 refine pure_ (i:=7) (N:=some 122) (v:=?_) (a':=?_) #[true,false,true,false,false,true,false,true,false,false,false,false,false,false] rfl rfl (any_of HT_.out (by kernel_rfl)) (fun _ _ _ h=>h) (Or.inl ⟨by rfl,?_⟩) ?_ ?_
                 rotate_left
                 ·
                  intro w'
                  go_simp
                  with_reducible rfl
                 rotate_left
                 ·
                  simp only [Act.put,la_,l0_,l1_,i64_w,i32_w]
                  rfl
                 refine take_ (i:=1) (N:=some 116) (v:=?_) (a':=?_) #[true,true,true,false,false,true,false,true,false,false,false,false,false,false] rfl rfl (take_ofW HT_.out HW_.out (by kernel_rfl)) (fun _ _ _ h=>h) (Or.inl ⟨by rfl,?_⟩) hHeld ?_ ?_
                 rotate_left
                 ·
                  rintro w' ⟨s0,s1,s2,s3⟩
                  go_simp
                  with_reducible rfl
                 rotate_left
                 ·
                  simp only [Act.put,la_,l0_,l1_,i64_w,i32_w]
                  rfl
                 refine take_ (i:=3) (N:=some 118) (v:=?_) (a':=?_) #[true,true,true,true,false,true,false,true,false,false,false,false,false,false] rfl rfl (take_ofW HT_.out HW_.out (by kernel_rfl)) (fun _ _ _ h=>h) (Or.inl ⟨by rfl,?_⟩) hHeld ?_ ?_
                 rotate_left
                 ·
                  rintro w' ⟨s0,s1,s2,s3⟩
                  go_simp
                  with_reducible rfl
                 rotate_left
                 ·
                  simp only [Act.put,la_,l0_,l1_,i64_w,i32_w]
                  rfl
                 refine pure_ (i:=4) (N:=some 119) (v:=?_) (a':=?_) #[true,true,true,true,true,true,false,true,false,false,false,false,false,false] rfl rfl (any_of HT_.out (by kernel_rfl)) (fun _ _ _ h=>h) (Or.inl ⟨by rfl,?_⟩) ?_ ?_
                 rotate_left
                 ·
                  intro w'
                  go_simp
                  with_reducible rfl
                 rotate_left
                 ·
                  simp only [Act.put,la_,l0_,l1_,i64_w,i32_w]
                  rfl
                 refine take_ (i:=6) (N:=some 121) (v:=?_) (a':=?_) #[true,true,true,true,true,true,true,true,false,false,false,false,false,false] rfl rfl (take_ofW HT_.out HW_.out (by kernel_rfl)) (fun _ _ _ h=>h) (Or.inl ⟨by rfl,?_⟩) hHeld ?_ ?_
                 rotate_left
                 ·
                  rintro w' ⟨s0,s1,s2,s3⟩
                  go_simp
                  with_reducible rfl
                 rotate_left
                 ·
                  simp only [Act.put,la_,l0_,l1_,i64_w,i32_w]
                  rfl
                 refine pure_ (i:=10) (N:=some 125) (v:=?_) (a':=?_) #[true,true,true,true,true,true,true,true,false,false,true,false,false,false] rfl rfl (any_of HT_.out (by kernel_rfl)) (fun _ _ _ h=>h) (Or.inl ⟨by rfl,?_⟩) ?_ ?_
                 rotate_left
                 ·
                  intro w'
                  go_simp
                  with_reducible rfl
                 rotate_left
                 ·
                  simp only [Act.put,la_,l0_,l1_,i64_w,i32_w]
                  rfl
                 refine ends_ (fuel':=0) (l':=#[true,true,true,true,true,true,true,true,true,true,true,true,true,true]) (a1:=?_) (w1:=?_) (fun hEnd_=>?_) ?_
                 rotate_right
                 rotate_right
                 ·
                  skip
                  refine orders_ (rs:=[8,11]) (by kernel_rfl) (by simp) ?_
                  refine orderR_ (i:=8) (N:=some 123) (v:=?_) (a':=?_) #[true,true,true,true,true,true,true,true,true,false,true,false,false,false] rfl rfl (by kernel_rfl) (by rfl) ?_ ?_ ?_ ?_
                  rotate_left
                  ·
                   have hTold_:=hHeld
                   obtain ⟨s0,s1,s2,s3⟩:=hTold_
                   go_simp
                   with_reducible rfl
                  rotate_left
                  ·
                   simp only [Act.put,la_,l0_,l1_,i64_w,i32_w]
                   rfl
                  ·
                   skip
                   refine pure_ (i:=9) (N:=some 124) (v:=?_) (a':=?_) #[true,true,true,true,true,true,true,true,true,true,true,false,false,false] rfl rfl (any_of HT_.out (by kernel_rfl)) (fun _ _ _ h=>h) (Or.inl ⟨by rfl,?_⟩) ?_ ?_
                   rotate_left
                   ·
                    intro w'
                    go_simp
                    with_reducible rfl
                   rotate_left
                   ·
                    simp only [Act.put,la_,l0_,l1_,i64_w,i32_w]
                    rfl
                   refine orders_ (rs:=[11]) (by kernel_rfl) (by simp) ?_
                   refine orderS_ (i:=11) (N:=none) #[true,true,true,true,true,true,true,true,true,true,true,true,false,false] rfl rfl (by kernel_rfl) (by decide) (fun K hK=>?_) ?_
                   ·
                    skip
                    have hs43 : w42.cell? ⟨gb192,0,none⟩ = some (.int .i64 x193000_1):=(blk_cell BK192.out 0).trans rfl
                    have hfs43:=blk_frozen BK192.out 0
                    have hns43_1:=NB200_192.out
                    have hns43_2:=NB201_192.out
                    have hms43_1:=NB192_200.out
                    have hms43_2:=NB192_201.out
                    refine skip_ (w1:=?_) (by rfl) rfl ?_ ?_
                    rotate_left
                    ·
                     go_simp
                     rfl
                    refine hK.out _ _ ?_
                    clear hK K
                    refine pure_ (i:=12) (N:=some 126) (v:=?_) (a':=?_) #[true,true,true,true,true,true,true,true,true,true,true,true,true,false] rfl rfl (any_of HT_.out (by kernel_rfl)) (fun _ _ _ h=>h) (Or.inl ⟨by rfl,?_⟩) ?_ ?_
                    rotate_left
                    ·
                     intro w'
                     go_simp
                     with_reducible rfl
                    rotate_left
                    ·
                     simp only [Act.put,la_,l0_,l1_,i64_w,i32_w]
                     rfl
                    refine orders_ (rs:=[13]) (by kernel_rfl) (by simp) ?_
                    refine orderS_ (i:=13) (N:=none) #[true,true,true,true,true,true,true,true,true,true,true,true,true,true] rfl rfl (by kernel_rfl) (by decide) (fun K hK=>?_) ?_
                    ·
                     skip
                     have hs44 : w42.cell? ⟨gb192,1,none⟩ = some (.int .i64 x193001_1):=(blk_cell BK192.out 1).trans rfl
                     have hfs44:=blk_frozen BK192.out 1
                     have hns44_1:=NB200_192.out
                     have hns44_2:=NB201_192.out
                     have hms44_1:=NB192_200.out
                     have hms44_2:=NB192_201.out
                     refine skip_ (w1:=?_) (by rfl) rfl ?_ ?_
                     rotate_left
                     ·
                      go_simp
                      rfl
                     refine hK.out _ _ ?_
                     clear hK K
                     refine hEnd_ _ _ ?_ ?_
                     ·
                      rfl
                     rfl
                    exact AllReadyL.nil
                   exact AllReadyL.nil
                  refine orderS_ (i:=11) (N:=none) #[true,true,true,true,true,true,true,true,false,false,true,true,false,false] rfl rfl (by kernel_rfl) (by decide) (fun K hK=>?_) ?_
                  ·
                   skip
                   have hs43 : w42.cell? ⟨gb192,0,none⟩ = some (.int .i64 x193000_1):=(blk_cell BK192.out 0).trans rfl
                   have hfs43:=blk_frozen BK192.out 0
                   have hns43_1:=NB200_192.out
                   have hns43_2:=NB201_192.out
                   have hms43_1:=NB192_200.out
                   have hms43_2:=NB192_201.out
                   refine skip_ (w1:=?_) (by rfl) rfl ?_ ?_
                   rotate_left
                   ·
                    go_simp
                    rfl
                   refine hK.out _ _ ?_
                   clear hK K
                   refine orders_ (rs:=[8]) (by kernel_rfl) (by simp) ?_
                   refine orderR_ (i:=8) (N:=some 123) (v:=?_) (a':=?_) #[true,true,true,true,true,true,true,true,true,false,true,true,false,false] rfl rfl (by kernel_rfl) (by rfl) ?_ ?_ ?_ ?_
                   rotate_left
                   ·
                    have hTold_:=hHeld
                    obtain ⟨s0,s1,s2,s3⟩:=hTold_
                    go_simp
                    with_reducible rfl
                   rotate_left
                   ·
                    simp only [Act.put,la_,l0_,l1_,i64_w,i32_w]
                    rfl
                   ·
                    skip
                    refine pure_ (i:=9) (N:=some 124) (v:=?_) (a':=?_) #[true,true,true,true,true,true,true,true,true,true,true,true,false,false] rfl rfl (any_of HT_.out (by kernel_rfl)) (fun _ _ _ h=>h) (Or.inl ⟨by rfl,?_⟩) ?_ ?_
                    rotate_left
                    ·
                     intro w'
                     go_simp
                     with_reducible rfl
                    rotate_left
                    ·
                     simp only [Act.put,la_,l0_,l1_,i64_w,i32_w]
                     rfl
                    refine pure_ (i:=12) (N:=some 126) (v:=?_) (a':=?_) #[true,true,true,true,true,true,true,true,true,true,true,true,true,false] rfl rfl (any_of HT_.out (by kernel_rfl)) (fun _ _ _ h=>h) (Or.inl ⟨by rfl,?_⟩) ?_ ?_
                    rotate_left
                    ·
                     intro w'
                     go_simp
                     with_reducible rfl
                    rotate_left
                    ·
                     simp only [Act.put,la_,l0_,l1_,i64_w,i32_w]
                     rfl
                    refine orders_ (rs:=[13]) (by kernel_rfl) (by simp) ?_
                    refine orderS_ (i:=13) (N:=none) #[true,true,true,true,true,true,true,true,true,true,true,true,true,true] rfl rfl (by kernel_rfl) (by decide) (fun K hK=>?_) ?_
                    ·
                     skip
                     have hs44 : w42.cell? ⟨gb192,1,none⟩ = some (.int .i64 x193001_1):=(blk_cell BK192.out 1).trans rfl
                     have hfs44:=blk_frozen BK192.out 1
                     have hns44_1:=NB200_192.out
                     have hns44_2:=NB201_192.out
                     have hms44_1:=NB192_200.out
                     have hms44_2:=NB192_201.out
                     refine skip_ (w1:=?_) (by rfl) rfl ?_ ?_
                     rotate_left
                     ·
                      go_simp
                      rfl
                     refine hK.out _ _ ?_
                     clear hK K
                     refine hEnd_ _ _ ?_ ?_
                     ·
                      rfl
                     rfl
                    exact AllReadyL.nil
                   exact AllReadyL.nil
                  exact AllReadyL.nil
                 refine done_ (done_of HT_.out (by kernel_rfl)) ?_
                 try go_wp2
                 have n0_ : Aside0 (Kd.R k30 30 ((w42.setCell ⟨gb192,0,none⟩ (.int .i64 (wrap64 (x193000_1 + t196)))).setCell ⟨gb192,1,none⟩ (.int .i64 (wrap64 (x193001_1 + t197)))) w.heap.size (fun k_=>some k_ ≠ (.slice (some ad189) t184.length co13 : Value).ownBlock∧some k_ ≠ (v194 : Value).ownBlock∧k_ ≠ gb192∧k_ ≠ gb200∧k_ ≠ gb201) (.slice (some ad188) t180.length co12) t180):=⟨by (with_reducible repeat (first|apply ra_|apply rn_|apply rd_));exact Kd.R_mono (Kd.R_far (p:=⟨gb192,1,none⟩) (Kd.R_far (p:=⟨gb192,0,none⟩) (Kd.R_mono HO_6.out (fun k_ hk=>(⟨hk,hk.2.2.1⟩ : _∧k_ ≠ gb192))) (fun _ hk=>hk.2) (.int .i64 (wrap64 (x193000_1 + t196)))) (fun _ hk=>hk.2) (.int .i64 (wrap64 (x193001_1 + t197)))) (fun _ hk=>⟨hk.1.1,⟨hk.1.2.1,⟨hk.1.2.2.1,⟨hk.1.2.2.2.1,hk.1.2.2.2.2⟩⟩⟩⟩)⟩
                 have n1_ : Aside0 (Kd.R k30 30 ((w42.setCell ⟨gb192,0,none⟩ (.int .i64 (wrap64 (x193000_1 + t196)))).setCell ⟨gb192,1,none⟩ (.int .i64 (wrap64 (x193001_1 + t197)))) w.heap.size (fun k_=>some k_ ≠ (.slice (some ad188) t180.length co12 : Value).ownBlock∧some k_ ≠ (v194 : Value).ownBlock∧k_ ≠ gb192∧k_ ≠ gb200∧k_ ≠ gb201) (.slice (some ad189) t184.length co13) t184):=⟨by (with_reducible repeat (first|apply ra_|apply rn_|apply rd_));exact Kd.R_mono (Kd.R_far (p:=⟨gb192,1,none⟩) (Kd.R_far (p:=⟨gb192,0,none⟩) (Kd.R_mono HO_8.out (fun k_ hk=>(⟨hk,hk.2.2.1⟩ : _∧k_ ≠ gb192))) (fun _ hk=>hk.2) (.int .i64 (wrap64 (x193000_1 + t196)))) (fun _ hk=>hk.2) (.int .i64 (wrap64 (x193001_1 + t197)))) (fun _ hk=>⟨hk.1.1,⟨hk.1.2.1,⟨hk.1.2.2.1,⟨hk.1.2.2.2.1,hk.1.2.2.2.2⟩⟩⟩⟩)⟩
                 have n2_ : Aside0 (Kd.R k30 30 ((w42.setCell ⟨gb192,0,none⟩ (.int .i64 (wrap64 (x193000_1 + t196)))).setCell ⟨gb192,1,none⟩ (.int .i64 (wrap64 (x193001_1 + t197)))) w.heap.size (fun k_=>some k_ ≠ (.slice (some ad188) t180.length co12 : Value).ownBlock∧some k_ ≠ (.slice (some ad189) t184.length co13 : Value).ownBlock∧k_ ≠ gb192∧k_ ≠ gb200∧k_ ≠ gb201) v194 y193):=⟨by (with_reducible repeat (first|apply ra_|apply rn_|apply rd_));exact Kd.R_mono (Kd.R_far (p:=⟨gb192,1,none⟩) (Kd.R_far (p:=⟨gb192,0,none⟩) (Kd.R_mono HO_9.out (fun k_ hk=>(⟨hk,hk.2.2.1⟩ : _∧k_ ≠ gb192))) (fun _ hk=>hk.2) (.int .i64 (wrap64 (x193000_1 + t196)))) (fun _ hk=>hk.2) (.int .i64 (wrap64 (x193001_1 + t197)))) (fun _ hk=>⟨hk.1.1,⟨hk.1.2.1,⟨hk.1.2.2.1,⟨hk.1.2.2.2.1,hk.1.2.2.2.2⟩⟩⟩⟩)⟩
                 have n3_ : Aside0 (((w42.setCell ⟨gb192,0,none⟩ (.int .i64 (wrap64 (x193000_1 + t196)))).setCell ⟨gb192,1,none⟩ (.int .i64 (wrap64 (x193001_1 + t197)))).heap[gb192]? = some (.cells #[.int .i64 (wrap64 (x193000_1 + t196)),.int .i64 (wrap64 (x193001_1 + t197))] 30 (0,0))):=⟨by (with_reducible repeat (first|refine kn_ ?_ _|refine kd_ ?_|refine ka_ ?_ _));refine blk_put (cs:=#[.int .i64 (wrap64 (x193000_1 + t196)),.int .i64 x193001_1]) ?_ 1 _ rfl;(with_reducible repeat (first|refine kn_ ?_ _|refine kd_ ?_|refine ka_ ?_ _));refine blk_put (cs:=#[.int .i64 x193000_1,.int .i64 x193001_1]) ?_ 0 _ rfl;(with_reducible repeat (first|refine kn_ ?_ _|refine kd_ ?_|refine ka_ ?_ _));exact BK192.out⟩
                 have n4_ : Aside0 (((w42.setCell ⟨gb192,0,none⟩ (.int .i64 (wrap64 (x193000_1 + t196)))).setCell ⟨gb192,1,none⟩ (.int .i64 (wrap64 (x193001_1 + t197)))).heap[gb200]? = some (.cells #[.int .i64 t196,.int .i64 t197] 30 (0,0))):=⟨by (with_reducible repeat (first|refine kn_ ?_ _|refine kd_ ?_|refine ka_ ?_ _));refine blk_far ?_ NB200_192.out _;(with_reducible repeat (first|refine kn_ ?_ _|refine kd_ ?_|refine ka_ ?_ _));refine blk_far ?_ NB200_192.out _;(with_reducible repeat (first|refine kn_ ?_ _|refine kd_ ?_|refine ka_ ?_ _));exact BK200.out⟩
                 have n5_ : Aside0 (((w42.setCell ⟨gb192,0,none⟩ (.int .i64 (wrap64 (x193000_1 + t196)))).setCell ⟨gb192,1,none⟩ (.int .i64 (wrap64 (x193001_1 + t197)))).heap[gb201]? = some (.cells #[.int .i64 t198,.int .i64 t199] 30 (0,0))):=⟨by (with_reducible repeat (first|refine kn_ ?_ _|refine kd_ ?_|refine ka_ ?_ _));refine blk_far ?_ NB201_192.out _;(with_reducible repeat (first|refine kn_ ?_ _|refine kd_ ?_|refine ka_ ?_ _));refine blk_far ?_ NB201_192.out _;(with_reducible repeat (first|refine kn_ ?_ _|refine kd_ ?_|refine ka_ ?_ _));exact BK201.out⟩
                 have n6_ : Aside0 (Below w.heap.size w ((w42.setCell ⟨gb192,0,none⟩ (.int .i64 (wrap64 (x193000_1 + t196)))).setCell ⟨gb192,1,none⟩ (.int .i64 (wrap64 (x193001_1 + t197))))):=⟨by repeat (first|(with_reducible first|exact HB.out|apply ba_|apply bn_|apply bd_|refine below_set ?_ GE192.out|refine below_set ?_ GE200.out|refine below_set ?_ GE201.out)|exact HB.out)⟩
                 (try clear HO_6)
                 (try clear HO_8)
                 (try clear HO_9)
                 (try clear BK192)
                 (try clear BK200)
                 (try clear BK201)
                 (try clear HB)
                 generalize ((w42.setCell ⟨gb192,0,none⟩ (.int .i64 (wrap64 (x193000_1 + t196)))).setCell ⟨gb192,1,none⟩ (.int .i64 (wrap64 (x193001_1 + t197)))) = w45 at n0_ n1_ n2_ n3_ n4_ n5_ n6_ ⊢
                 have HO_6:=n0_
                 have HO_8:=n1_
                 have HO_9:=n2_
                 have BK192:=n3_
                 have BK200:=n4_
                 have BK201:=n5_
                 have HB:=n6_
                 clear n0_ n1_ n2_ n3_ n4_ n5_ n6_
                 have n0_:=Aside0.mk (rd_ HO_6.out)
                 have n1_:=Aside0.mk (rd_ HO_8.out)
                 have n2_:=Aside0.mk (rd_ HO_9.out)
                 have n3_:=Aside0.mk (kd_ BK192.out)
                 have n4_:=Aside0.mk (kd_ BK200.out)
                 have n5_:=Aside0.mk (kd_ BK201.out)
                 have n6_:=Aside0.mk (bd_ HB.out)
                 clear HO_6
                 clear HO_8
                 clear HO_9
                 clear BK192
                 clear BK200
                 clear BK201
                 clear HB
                 have HO_6:=n0_
                 have HO_8:=n1_
                 have HO_9:=n2_
                 have BK192:=n3_
                 have BK200:=n4_
                 have BK201:=n5_
                 have HB:=n6_
                 clear n0_ n1_ n2_ n3_ n4_ n5_ n6_
                 refine start_ (n:=14) (S:=fun w'=>w'.cell? ⟨gb192,0,none⟩ = some (.int .i64 (wrap64 (x193000_1 + t196)))∧w'.cell? ⟨gb192,1,none⟩ = some (.int .i64 (wrap64 (x193001_1 + t197)))∧w'.cell? ⟨gb201,0,none⟩ = some (.int .i64 t198)∧w'.cell? ⟨gb201,1,none⟩ = some (.int .i64 t199)) (ds:=[11,13]) #[false,false,false,false,false,false,false,false,false,false,false,false,false,false] (by kernel_rfl) rfl rfl ⟨(blk_cell BK192.out 0).trans rfl,(blk_cell BK192.out 1).trans rfl,(blk_cell BK201.out 0).trans rfl,(blk_cell BK201.out 1).trans rfl⟩ (fun hHeld=>?_);refine with_tabW convex_Sum.tab20 convex_Sum.bits20 (fun HT_ HW_=>?_)
                 generalize w45.drew = w46 at HO_6 HO_8 HO_9 BK192 BK200 BK201 HB hHeld ⊢
                 refine pure_ (i:=0) (N:=some 130) (v:=?_) (a':=?_) #[true,false,false,false,false,false,false,false,false,false,false,false,false,false] rfl rfl (any_of HT_.out (by kernel_rfl)) (fun _ _ _ h=>h) (Or.inl ⟨by rfl,?_⟩) ?_ ?_
                 rotate_left
                 ·
                  intro w'
                  go_simp
                  with_reducible rfl
                 rotate_left
                 ·
                  simp only [Act.put,la_,l0_,l1_,i64_w,i32_w]
                  rfl
                 refine pure_ (i:=2) (N:=some 132) (v:=?_) (a':=?_) #[true,false,true,false,false,false,false,false,false,false,false,false,false,false] rfl rfl (any_of HT_.out (by kernel_rfl)) (fun _ _ _ h=>h) (Or.inl ⟨by rfl,?_⟩) ?_ ?_
                 rotate_left
                 ·
                  intro w'
                  go_simp
                  with_reducible rfl
                 rotate_left
                 ·
                  simp only [Act.put,la_,l0_,l1_,i64_w,i32_w]
                  rfl
                 refine pure_ (i:=5) (N:=some 135) (v:=?_) (a':=?_) #[true,false,true,false,false,true,false,false,false,false,false,false,false,false] rfl rfl (any_of HT_.out (by kernel_rfl)) (fun _ _ _ h=>h) (Or.inl ⟨by rfl,?_⟩) ?_ ?_
                 rotate_left
                 ·
                  intro w'
                  go_simp
                  with_reducible rfl
                 rotate_left
                 ·
                  simp only [Act.put,la_,l0_,l1_,i64_w,i32_w]
                  rfl
                 refine pure_ (i:=7) (N:=some 137) (v:=?_) (a':=?_) #[true,false,true,false,false,true,false,true,false,false,false,false,false,false] rfl rfl (any_of HT_.out (by kernel_rfl)) (fun _ _ _ h=>h) (Or.inl ⟨by rfl,?_⟩) ?_ ?_
                 rotate_left
                 ·
                  intro w'
                  go_simp
                  with_reducible rfl
                 rotate_left
                 ·
                  simp only [Act.put,la_,l0_,l1_,i64_w,i32_w]
                  rfl
                 refine take_ (i:=1) (N:=some 131) (v:=?_) (a':=?_) #[true,true,true,false,false,true,false,true,false,false,false,false,false,false] rfl rfl (take_ofW HT_.out HW_.out (by kernel_rfl)) (fun _ _ _ h=>h) (Or.inl ⟨by rfl,?_⟩) hHeld ?_ ?_
                 rotate_left
                 ·
                  rintro w' ⟨s0,s1,s2,s3⟩
                  go_simp
                  with_reducible rfl
                 rotate_left
                 ·
                  simp only [Act.put,la_,l0_,l1_,i64_w,i32_w]
                  rfl
                 refine take_ (i:=3) (N:=some 133) (v:=?_) (a':=?_) #[true,true,true,true,false,true,false,true,false,false,false,false,false,false] rfl rfl (take_ofW HT_.out HW_.out (by kernel_rfl)) (fun _ _ _ h=>h) (Or.inl ⟨by rfl,?_⟩) hHeld ?_ ?_
                 rotate_left
                 ·
                  rintro w' ⟨s0,s1,s2,s3⟩
                  go_simp
                  with_reducible rfl
                 rotate_left
                 ·
                  simp only [Act.put,la_,l0_,l1_,i64_w,i32_w]
                  rfl
                 refine pure_ (i:=4) (N:=some 134) (v:=?_) (a':=?_) #[true,true,true,true,true,true,false,true,false,false,false,false,false,false] rfl rfl (any_of HT_.out (by kernel_rfl)) (fun _ _ _ h=>h) (Or.inl ⟨by rfl,?_⟩) ?_ ?_
                 rotate_left
                 ·
                  intro w'
                  go_simp
                  with_reducible rfl
                 rotate_left
                 ·
                  simp only [Act.put,la_,l0_,l1_,i64_w,i32_w]
                  rfl
                 refine take_ (i:=6) (N:=some 136) (v:=?_) (a':=?_) #[true,true,true,true,true,true,true,true,false,false,false,false,false,false] rfl rfl (take_ofW HT_.out HW_.out (by kernel_rfl)) (fun _ _ _ h=>h) (Or.inl ⟨by rfl,?_⟩) hHeld ?_ ?_
                 rotate_left
                 ·
                  rintro w' ⟨s0,s1,s2,s3⟩
                  go_simp
                  with_reducible rfl
                 rotate_left
                 ·
                  simp only [Act.put,la_,l0_,l1_,i64_w,i32_w]
                  rfl
                 refine pure_ (i:=10) (N:=some 140) (v:=?_) (a':=?_) #[true,true,true,true,true,true,true,true,false,false,true,false,false,false] rfl rfl (any_of HT_.out (by kernel_rfl)) (fun _ _ _ h=>h) (Or.inl ⟨by rfl,?_⟩) ?_ ?_
                 rotate_left
                 ·
                  intro w'
                  go_simp
                  with_reducible rfl
                 rotate_left
                 ·
                  simp only [Act.put,la_,l0_,l1_,i64_w,i32_w]
                  rfl
                 refine ends_ (fuel':=0) (l':=#[true,true,true,true,true,true,true,true,true,true,true,true,true,true]) (a1:=?_) (w1:=?_) (fun hEnd_=>?_) ?_
                 rotate_right
                 rotate_right
                 ·
                  skip
                  refine orders_ (rs:=[8,11]) (by kernel_rfl) (by simp) ?_
                  refine orderR_ (i:=8) (N:=some 138) (v:=?_) (a':=?_) #[true,true,true,true,true,true,true,true,true,false,true,false,false,false] rfl rfl (by kernel_rfl) (by rfl) ?_ ?_ ?_ ?_
                  rotate_left
                  ·
                   have hTold_:=hHeld
                   obtain ⟨s0,s1,s2,s3⟩:=hTold_
                   go_simp
                   with_reducible rfl
                  rotate_left
                  ·
                   simp only [Act.put,la_,l0_,l1_,i64_w,i32_w]
                   rfl
                  ·
                   skip
                   refine pure_ (i:=9) (N:=some 139) (v:=?_) (a':=?_) #[true,true,true,true,true,true,true,true,true,true,true,false,false,false] rfl rfl (any_of HT_.out (by kernel_rfl)) (fun _ _ _ h=>h) (Or.inl ⟨by rfl,?_⟩) ?_ ?_
                   rotate_left
                   ·
                    intro w'
                    go_simp
                    with_reducible rfl
                   rotate_left
                   ·
                    simp only [Act.put,la_,l0_,l1_,i64_w,i32_w]
                    rfl
                   refine orders_ (rs:=[11]) (by kernel_rfl) (by simp) ?_
                   refine orderS_ (i:=11) (N:=none) #[true,true,true,true,true,true,true,true,true,true,true,true,false,false] rfl rfl (by kernel_rfl) (by decide) (fun K hK=>?_) ?_
                   ·
                    skip
                    have hs47 : w46.cell? ⟨gb192,0,none⟩ = some (.int .i64 (wrap64 (x193000_1 + t196))):=(blk_cell BK192.out 0).trans rfl
                    have hfs47:=blk_frozen BK192.out 0
                    have hns47_1:=NB200_192.out
                    have hns47_2:=NB201_192.out
                    have hms47_1:=NB192_200.out
                    have hms47_2:=NB192_201.out
                    refine skip_ (w1:=?_) (by rfl) rfl ?_ ?_
                    rotate_left
                    ·
                     go_simp
                     rfl
                    refine hK.out _ _ ?_
                    clear hK K
                    refine pure_ (i:=12) (N:=some 141) (v:=?_) (a':=?_) #[true,true,true,true,true,true,true,true,true,true,true,true,true,false] rfl rfl (any_of HT_.out (by kernel_rfl)) (fun _ _ _ h=>h) (Or.inl ⟨by rfl,?_⟩) ?_ ?_
                    rotate_left
                    ·
                     intro w'
                     go_simp
                     with_reducible rfl
                    rotate_left
                    ·
                     simp only [Act.put,la_,l0_,l1_,i64_w,i32_w]
                     rfl
                    refine orders_ (rs:=[13]) (by kernel_rfl) (by simp) ?_
                    refine orderS_ (i:=13) (N:=none) #[true,true,true,true,true,true,true,true,true,true,true,true,true,true] rfl rfl (by kernel_rfl) (by decide) (fun K hK=>?_) ?_
                    ·
                     skip
                     have hs48 : w46.cell? ⟨gb192,1,none⟩ = some (.int .i64 (wrap64 (x193001_1 + t197))):=(blk_cell BK192.out 1).trans rfl
                     have hfs48:=blk_frozen BK192.out 1
                     have hns48_1:=NB200_192.out
                     have hns48_2:=NB201_192.out
                     have hms48_1:=NB192_200.out
                     have hms48_2:=NB192_201.out
                     refine skip_ (w1:=?_) (by rfl) rfl ?_ ?_
                     rotate_left
                     ·
                      go_simp
                      rfl
                     refine hK.out _ _ ?_
                     clear hK K
                     refine hEnd_ _ _ ?_ ?_
                     ·
                      rfl
                     rfl
                    exact AllReadyL.nil
                   exact AllReadyL.nil
                  refine orderS_ (i:=11) (N:=none) #[true,true,true,true,true,true,true,true,false,false,true,true,false,false] rfl rfl (by kernel_rfl) (by decide) (fun K hK=>?_) ?_
                  ·
                   skip
                   have hs47 : w46.cell? ⟨gb192,0,none⟩ = some (.int .i64 (wrap64 (x193000_1 + t196))):=(blk_cell BK192.out 0).trans rfl
                   have hfs47:=blk_frozen BK192.out 0
                   have hns47_1:=NB200_192.out
                   have hns47_2:=NB201_192.out
                   have hms47_1:=NB192_200.out
                   have hms47_2:=NB192_201.out
                   refine skip_ (w1:=?_) (by rfl) rfl ?_ ?_
                   rotate_left
                   ·
                    go_simp
                    rfl
                   refine hK.out _ _ ?_
                   clear hK K
                   refine orders_ (rs:=[8]) (by kernel_rfl) (by simp) ?_
                   refine orderR_ (i:=8) (N:=some 138) (v:=?_) (a':=?_) #[true,true,true,true,true,true,true,true,true,false,true,true,false,false] rfl rfl (by kernel_rfl) (by rfl) ?_ ?_ ?_ ?_
                   rotate_left
                   ·
                    have hTold_:=hHeld
                    obtain ⟨s0,s1,s2,s3⟩:=hTold_
                    go_simp
                    with_reducible rfl
                   rotate_left
                   ·
                    simp only [Act.put,la_,l0_,l1_,i64_w,i32_w]
                    rfl
                   ·
                    skip
                    refine pure_ (i:=9) (N:=some 139) (v:=?_) (a':=?_) #[true,true,true,true,true,true,true,true,true,true,true,true,false,false] rfl rfl (any_of HT_.out (by kernel_rfl)) (fun _ _ _ h=>h) (Or.inl ⟨by rfl,?_⟩) ?_ ?_
                    rotate_left
                    ·
                     intro w'
                     go_simp
                     with_reducible rfl
                    rotate_left
                    ·
                     simp only [Act.put,la_,l0_,l1_,i64_w,i32_w]
                     rfl
                    refine pure_ (i:=12) (N:=some 141) (v:=?_) (a':=?_) #[true,true,true,true,true,true,true,true,true,true,true,true,true,false] rfl rfl (any_of HT_.out (by kernel_rfl)) (fun _ _ _ h=>h) (Or.inl ⟨by rfl,?_⟩) ?_ ?_
                    rotate_left
                    ·
                     intro w'
                     go_simp
                     with_reducible rfl
                    rotate_left
                    ·
                     simp only [Act.put,la_,l0_,l1_,i64_w,i32_w]
                     rfl
                    refine orders_ (rs:=[13]) (by kernel_rfl) (by simp) ?_
                    refine orderS_ (i:=13) (N:=none) #[true,true,true,true,true,true,true,true,true,true,true,true,true,true] rfl rfl (by kernel_rfl) (by decide) (fun K hK=>?_) ?_
                    ·
                     skip
                     have hs48 : w46.cell? ⟨gb192,1,none⟩ = some (.int .i64 (wrap64 (x193001_1 + t197))):=(blk_cell BK192.out 1).trans rfl
                     have hfs48:=blk_frozen BK192.out 1
                     have hns48_1:=NB200_192.out
                     have hns48_2:=NB201_192.out
                     have hms48_1:=NB192_200.out
                     have hms48_2:=NB192_201.out
                     refine skip_ (w1:=?_) (by rfl) rfl ?_ ?_
                     rotate_left
                     ·
                      go_simp
                      rfl
                     refine hK.out _ _ ?_
                     clear hK K
                     refine hEnd_ _ _ ?_ ?_
                     ·
                      rfl
                     rfl
                    exact AllReadyL.nil
                   exact AllReadyL.nil
                  exact AllReadyL.nil
                 refine done_ (done_of HT_.out (by kernel_rfl)) ?_
                 try go_wp2
                 go_roundg kj36
                 case measure=>have:=HK1.out;have:=HJ16.out;have:=HJ22.out;have:=HJ36.out;omega
                 case rel=>exact ⟨(y193),(wrap64 (x11_1 + 1)),(wrap64 (x12_1 + 1)),(wrap64 ((wrap64 (x193000_1 + t196)) + t198)),(wrap64 ((wrap64 (x193001_1 + t197)) + t199)),(by first|rfl|(simp;done)|(simp [*];done)),(by first|rfl|(simp;done)|(simp [*];done)),H',⟨by have:=HK1.out;have:=HJ16.out;have:=HJ22.out;have:=HJ36.out;omega⟩,⟨by (with_reducible repeat (first|apply ra_|apply rn_|apply rd_));exact Kd.R_mono (Kd.R_far (p:=⟨gb192,1,none⟩) (Kd.R_far (p:=⟨gb192,0,none⟩) (Kd.R_mono HO_6.out (fun k_ hk=>(⟨hk,hk.2.2.1⟩ : _∧k_ ≠ gb192))) (fun _ hk=>hk.2) (.int .i64 (wrap64 ((wrap64 (x193000_1 + t196)) + t198)))) (fun _ hk=>hk.2) (.int .i64 (wrap64 ((wrap64 (x193001_1 + t197)) + t199)))) (fun _ hk=>⟨hk.1.1,⟨hk.1.2.1,hk.1.2.2.1⟩⟩)⟩,⟨by (with_reducible repeat (first|apply ra_|apply rn_|apply rd_));exact Kd.R_mono (Kd.R_far (p:=⟨gb192,1,none⟩) (Kd.R_far (p:=⟨gb192,0,none⟩) (Kd.R_mono HO_8.out (fun k_ hk=>(⟨hk,hk.2.2.1⟩ : _∧k_ ≠ gb192))) (fun _ hk=>hk.2) (.int .i64 (wrap64 ((wrap64 (x193000_1 + t196)) + t198)))) (fun _ hk=>hk.2) (.int .i64 (wrap64 ((wrap64 (x193001_1 + t197)) + t199)))) (fun _ hk=>⟨hk.1.1,⟨hk.1.2.1,hk.1.2.2.1⟩⟩)⟩,⟨by (with_reducible repeat (first|apply ra_|apply rn_|apply rd_));exact Kd.R_mono (Kd.R_far (p:=⟨gb192,1,none⟩) (Kd.R_far (p:=⟨gb192,0,none⟩) (Kd.R_mono HO_9.out (fun k_ hk=>(⟨hk,hk.2.2.1⟩ : _∧k_ ≠ gb192))) (fun _ hk=>hk.2) (.int .i64 (wrap64 ((wrap64 (x193000_1 + t196)) + t198)))) (fun _ hk=>hk.2) (.int .i64 (wrap64 ((wrap64 (x193001_1 + t197)) + t199)))) (fun _ hk=>⟨hk.1.1,⟨hk.1.2.1,hk.1.2.2.1⟩⟩)⟩,⟨by (with_reducible repeat (first|refine kn_ ?_ _|refine kd_ ?_|refine ka_ ?_ _));refine blk_put (cs:=#[.int .i64 (wrap64 ((wrap64 (x193000_1 + t196)) + t198)),.int .i64 (wrap64 (x193001_1 + t197))]) ?_ 1 _ rfl;(with_reducible repeat (first|refine kn_ ?_ _|refine kd_ ?_|refine ka_ ?_ _));refine blk_put (cs:=#[.int .i64 (wrap64 (x193000_1 + t196)),.int .i64 (wrap64 (x193001_1 + t197))]) ?_ 0 _ rfl;(with_reducible repeat (first|refine kn_ ?_ _|refine kd_ ?_|refine ka_ ?_ _));exact BK192.out⟩,⟨by repeat (first|(with_reducible first|exact HB.out|apply ba_|apply bn_|apply bd_|refine below_set ?_ GE192.out|refine below_set ?_ GE200.out|refine below_set ?_ GE201.out)|exact HB.out)⟩⟩
                replace c41:=Bool.eq_false_iff.mpr c41
                subst c41
                have H1 : (convex_Sum.l0 kj36 t180 t184 y193 (wrap64 (x11_1 + 1)) x12_1 (wrap64 (x193000_1 + t196)) (wrap64 (x193001_1 + t197))) = some (r1,r2):=by rw [if_neg (show ¬ (false = true) by decide)] at H;exact H
                clear H
                have H:=H1
                clear H1
                have H':=Aside0.mk H
                clear H
                try go_wp2
                have n0_:=Aside0.mk (rd_ HO_6.out)
                have n1_:=Aside0.mk (rd_ HO_8.out)
                have n2_:=Aside0.mk (rd_ HO_9.out)
                have n3_:=Aside0.mk (kd_ BK192.out)
                have n4_:=Aside0.mk (kd_ BK200.out)
                have n5_:=Aside0.mk (kd_ BK201.out)
                have n6_:=Aside0.mk (bd_ HB.out)
                clear HO_6
                clear HO_8
                clear HO_9
                clear BK192
                clear BK200
                clear BK201
                clear HB
                have HO_6:=n0_
                have HO_8:=n1_
                have HO_9:=n2_
                have BK192:=n3_
                have BK200:=n4_
                have BK201:=n5_
                have HB:=n6_
                clear n0_ n1_ n2_ n3_ n4_ n5_ n6_
                refine start_ (n:=14) (S:=fun w'=>w'.cell? ⟨gb192,0,none⟩ = some (.int .i64 x193000_1)∧w'.cell? ⟨gb192,1,none⟩ = some (.int .i64 x193001_1)∧w'.cell? ⟨gb200,0,none⟩ = some (.int .i64 t196)∧w'.cell? ⟨gb200,1,none⟩ = some (.int .i64 t197)) (ds:=[11,13]) #[false,false,false,false,false,false,false,false,false,false,false,false,false,false] (by kernel_rfl) rfl rfl ⟨(blk_cell BK192.out 0).trans rfl,(blk_cell BK192.out 1).trans rfl,(blk_cell BK200.out 0).trans rfl,(blk_cell BK200.out 1).trans rfl⟩ (fun hHeld=>?_);refine with_tabW convex_Sum.tab17 convex_Sum.bits17 (fun HT_ HW_=>?_)
                generalize wc.drew = w49 at HO_6 HO_8 HO_9 BK192 BK200 BK201 HB hHeld ⊢
                refine pure_ (i:=0) (N:=some 115) (v:=?_) (a':=?_) #[true,false,false,false,false,false,false,false,false,false,false,false,false,false] rfl rfl (any_of HT_.out (by kernel_rfl)) (fun _ _ _ h=>h) (Or.inl ⟨by rfl,?_⟩) ?_ ?_
                rotate_left
                ·
                 intro w'
                 go_simp
                 with_reducible rfl
                rotate_left
                ·
                 simp only [Act.put,la_,l0_,l1_,i64_w,i32_w]
                 rfl
                refine pure_ (i:=2) (N:=some 117) (v:=?_) (a':=?_) #[true,false,true,false,false,false,false,false,false,false,false,false,false,false] rfl rfl (any_of HT_.out (by kernel_rfl)) (fun _ _ _ h=>h) (Or.inl ⟨by rfl,?_⟩) ?_ ?_
                rotate_left
                ·
                 intro w'
                 go_simp
                 with_reducible rfl
                rotate_left
                ·
                 simp only [Act.put,la_,l0_,l1_,i64_w,i32_w]
                 rfl
                refine pure_ (i:=5) (N:=some 120) (v:=?_) (a':=?_) #[true,false,true,false,false,true,false,false,false,false,false,false,false,false] rfl rfl (any_of HT_.out (by kernel_rfl)) (fun _ _ _ h=>h) (Or.inl ⟨by rfl,?_⟩) ?_ ?_
                rotate_left
                ·
                 intro w'
                 go_simp
                 with_reducible rfl
                rotate_left
                ·
                 simp only [Act.put,la_,l0_,l1_,i64_w,i32_w]
                 rfl
                refine pure_ (i:=7) (N:=some 122) (v:=?_) (a':=?_) #[true,false,true,false,false,true,false,true,false,false,false,false,false,false] rfl rfl (any_of HT_.out (by kernel_rfl)) (fun _ _ _ h=>h) (Or.inl ⟨by rfl,?_⟩) ?_ ?_
                rotate_left
                ·
                 intro w'
                 go_simp
                 with_reducible rfl
                rotate_left
                ·
                 simp only [Act.put,la_,l0_,l1_,i64_w,i32_w]
                 rfl
                refine take_ (i:=1) (N:=some 116) (v:=?_) (a':=?_) #[true,true,true,false,false,true,false,true,false,false,false,false,false,false] rfl rfl (take_ofW HT_.out HW_.out (by kernel_rfl)) (fun _ _ _ h=>h) (Or.inl ⟨by rfl,?_⟩) hHeld ?_ ?_
                rotate_left
                ·
                 rintro w' ⟨s0,s1,s2,s3⟩
                 go_simp
                 with_reducible rfl
                rotate_left
                ·
                 simp only [Act.put,la_,l0_,l1_,i64_w,i32_w]
                 rfl
                refine take_ (i:=3) (N:=some 118) (v:=?_) (a':=?_) #[true,true,true,true,false,true,false,true,false,false,false,false,false,false] rfl rfl (take_ofW HT_.out HW_.out (by kernel_rfl)) (fun _ _ _ h=>h) (Or.inl ⟨by rfl,?_⟩) hHeld ?_ ?_
                rotate_left
                ·
                 rintro w' ⟨s0,s1,s2,s3⟩
                 go_simp
                 with_reducible rfl
                rotate_left
                ·
                 simp only [Act.put,la_,l0_,l1_,i64_w,i32_w]
                 rfl
                refine pure_ (i:=4) (N:=some 119) (v:=?_) (a':=?_) #[true,true,true,true,true,true,false,true,false,false,false,false,false,false] rfl rfl (any_of HT_.out (by kernel_rfl)) (fun _ _ _ h=>h) (Or.inl ⟨by rfl,?_⟩) ?_ ?_
                rotate_left
                ·
                 intro w'
                 go_simp
                 with_reducible rfl
                rotate_left
                ·
                 simp only [Act.put,la_,l0_,l1_,i64_w,i32_w]
                 rfl
                refine take_ (i:=6) (N:=some 121) (v:=?_) (a':=?_) #[true,true,true,true,true,true,true,true,false,false,false,false,false,false] rfl rfl (take_ofW HT_.out HW_.out (by kernel_rfl)) (fun _ _ _ h=>h) (Or.inl ⟨by rfl,?_⟩) hHeld ?_ ?_
                rotate_left
                ·
                 rintro w' ⟨s0,s1,s2,s3⟩
                 go_simp
                 with_reducible rfl
                rotate_left
                ·
                 simp only [Act.put,la_,l0_,l1_,i64_w,i32_w]
                 rfl
                refine pure_ (i:=10) (N:=some 125) (v:=?_) (a':=?_) #[true,true,true,true,true,true,true,true,false,false,true,false,false,false] rfl rfl (any_of HT_.out (by kernel_rfl)) (fun _ _ _ h=>h) (Or.inl ⟨by rfl,?_⟩) ?_ ?_
                rotate_left
                ·
                 intro w'
                 go_simp
                 with_reducible rfl
                rotate_left
                ·
                 simp only [Act.put,la_,l0_,l1_,i64_w,i32_w]
                 rfl
                refine ends_ (fuel':=0) (l':=#[true,true,true,true,true,true,true,true,true,true,true,true,true,true]) (a1:=?_) (w1:=?_) (fun hEnd_=>?_) ?_
                rotate_right
                rotate_right
                ·
                 skip
                 refine orders_ (rs:=[8,11]) (by kernel_rfl) (by simp) ?_
                 refine orderR_ (i:=8) (N:=some 123) (v:=?_) (a':=?_) #[true,true,true,true,true,true,true,true,true,false,true,false,false,false] rfl rfl (by kernel_rfl) (by rfl) ?_ ?_ ?_ ?_
                 rotate_left
                 ·
                  have hTold_:=hHeld
                  obtain ⟨s0,s1,s2,s3⟩:=hTold_
                  go_simp
                  with_reducible rfl
                 rotate_left
                 ·
                  simp only [Act.put,la_,l0_,l1_,i64_w,i32_w]
                  rfl
                 ·
                  skip
                  refine pure_ (i:=9) (N:=some 124) (v:=?_) (a':=?_) #[true,true,true,true,true,true,true,true,true,true,true,false,false,false] rfl rfl (any_of HT_.out (by kernel_rfl)) (fun _ _ _ h=>h) (Or.inl ⟨by rfl,?_⟩) ?_ ?_
                  rotate_left
                  ·
                   intro w'
                   go_simp
                   with_reducible rfl
                  rotate_left
                  ·
                   simp only [Act.put,la_,l0_,l1_,i64_w,i32_w]
                   rfl
                  refine orders_ (rs:=[11]) (by kernel_rfl) (by simp) ?_
                  refine orderS_ (i:=11) (N:=none) #[true,true,true,true,true,true,true,true,true,true,true,true,false,false] rfl rfl (by kernel_rfl) (by decide) (fun K hK=>?_) ?_
                  ·
                   skip
                   have hs50 : w49.cell? ⟨gb192,0,none⟩ = some (.int .i64 x193000_1):=(blk_cell BK192.out 0).trans rfl
                   have hfs50:=blk_frozen BK192.out 0
                   have hns50_1:=NB200_192.out
                   have hns50_2:=NB201_192.out
                   have hms50_1:=NB192_200.out
                   have hms50_2:=NB192_201.out
                   refine skip_ (w1:=?_) (by rfl) rfl ?_ ?_
                   rotate_left
                   ·
                    go_simp
                    rfl
                   refine hK.out _ _ ?_
                   clear hK K
                   refine pure_ (i:=12) (N:=some 126) (v:=?_) (a':=?_) #[true,true,true,true,true,true,true,true,true,true,true,true,true,false] rfl rfl (any_of HT_.out (by kernel_rfl)) (fun _ _ _ h=>h) (Or.inl ⟨by rfl,?_⟩) ?_ ?_
                   rotate_left
                   ·
                    intro w'
                    go_simp
                    with_reducible rfl
                   rotate_left
                   ·
                    simp only [Act.put,la_,l0_,l1_,i64_w,i32_w]
                    rfl
                   refine orders_ (rs:=[13]) (by kernel_rfl) (by simp) ?_
                   refine orderS_ (i:=13) (N:=none) #[true,true,true,true,true,true,true,true,true,true,true,true,true,true] rfl rfl (by kernel_rfl) (by decide) (fun K hK=>?_) ?_
                   ·
                    skip
                    have hs51 : w49.cell? ⟨gb192,1,none⟩ = some (.int .i64 x193001_1):=(blk_cell BK192.out 1).trans rfl
                    have hfs51:=blk_frozen BK192.out 1
                    have hns51_1:=NB200_192.out
                    have hns51_2:=NB201_192.out
                    have hms51_1:=NB192_200.out
                    have hms51_2:=NB192_201.out
                    refine skip_ (w1:=?_) (by rfl) rfl ?_ ?_
                    rotate_left
                    ·
                     go_simp
                     rfl
                    refine hK.out _ _ ?_
                    clear hK K
                    refine hEnd_ _ _ ?_ ?_
                    ·
                     rfl
                    rfl
                   exact AllReadyL.nil
                  exact AllReadyL.nil
                 refine orderS_ (i:=11) (N:=none) #[true,true,true,true,true,true,true,true,false,false,true,true,false,false] rfl rfl (by kernel_rfl) (by decide) (fun K hK=>?_) ?_
                 ·
                  skip
                  have hs50 : w49.cell? ⟨gb192,0,none⟩ = some (.int .i64 x193000_1):=(blk_cell BK192.out 0).trans rfl
                  have hfs50:=blk_frozen BK192.out 0
                  have hns50_1:=NB200_192.out
                  have hns50_2:=NB201_192.out
                  have hms50_1:=NB192_200.out
                  have hms50_2:=NB192_201.out
                  refine skip_ (w1:=?_) (by rfl) rfl ?_ ?_
                  rotate_left
                  ·
                   go_simp
                   rfl
                  refine hK.out _ _ ?_
                  clear hK K
                  refine orders_ (rs:=[8]) (by kernel_rfl) (by simp) ?_
                  refine orderR_ (i:=8) (N:=some 123) (v:=?_) (a':=?_) #[true,true,true,true,true,true,true,true,true,false,true,true,false,false] rfl rfl (by kernel_rfl) (by rfl) ?_ ?_ ?_ ?_
                  rotate_left
                  ·
                   have hTold_:=hHeld
                   obtain ⟨s0,s1,s2,s3⟩:=hTold_
                   go_simp
                   with_reducible rfl
                  rotate_left
                  ·
                   simp only [Act.put,la_,l0_,l1_,i64_w,i32_w]
                   rfl
                  ·
                   skip
                   refine pure_ (i:=9) (N:=some 124) (v:=?_) (a':=?_) #[true,true,true,true,true,true,true,true,true,true,true,true,false,false] rfl rfl (any_of HT_.out (by kernel_rfl)) (fun _ _ _ h=>h) (Or.inl ⟨by rfl,?_⟩) ?_ ?_
                   rotate_left
                   ·
                    intro w'
                    go_simp
                    with_reducible rfl
                   rotate_left
                   ·
                    simp only [Act.put,la_,l0_,l1_,i64_w,i32_w]
                    rfl
                   refine pure_ (i:=12) (N:=some 126) (v:=?_) (a':=?_) #[true,true,true,true,true,true,true,true,true,true,true,true,true,false] rfl rfl (any_of HT_.out (by kernel_rfl)) (fun _ _ _ h=>h) (Or.inl ⟨by rfl,?_⟩) ?_ ?_
                   rotate_left
                   ·
                    intro w'
                    go_simp
                    with_reducible rfl
                   rotate_left
                   ·
                    simp only [Act.put,la_,l0_,l1_,i64_w,i32_w]
                    rfl
                   refine orders_ (rs:=[13]) (by kernel_rfl) (by simp) ?_
                   refine orderS_ (i:=13) (N:=none) #[true,true,true,true,true,true,true,true,true,true,true,true,true,true] rfl rfl (by kernel_rfl) (by decide) (fun K hK=>?_) ?_
                   ·
                    skip
                    have hs51 : w49.cell? ⟨gb192,1,none⟩ = some (.int .i64 x193001_1):=(blk_cell BK192.out 1).trans rfl
                    have hfs51:=blk_frozen BK192.out 1
                    have hns51_1:=NB200_192.out
                    have hns51_2:=NB201_192.out
                    have hms51_1:=NB192_200.out
                    have hms51_2:=NB192_201.out
                    refine skip_ (w1:=?_) (by rfl) rfl ?_ ?_
                    rotate_left
                    ·
                     go_simp
                     rfl
                    refine hK.out _ _ ?_
                    clear hK K
                    refine hEnd_ _ _ ?_ ?_
                    ·
                     rfl
                    rfl
                   exact AllReadyL.nil
                  exact AllReadyL.nil
                 exact AllReadyL.nil
                refine done_ (done_of HT_.out (by kernel_rfl)) ?_
                try go_wp2
                go_roundg kj36
                case measure=>have:=HK1.out;have:=HJ16.out;have:=HJ22.out;have:=HJ36.out;omega
                case rel=>exact ⟨(y193),(wrap64 (x11_1 + 1)),(x12_1),(wrap64 (x193000_1 + t196)),(wrap64 (x193001_1 + t197)),(by first|rfl|(simp;done)|(simp [*];done)),(by first|rfl|(simp;done)|(simp [*];done)),H',⟨by have:=HK1.out;have:=HJ16.out;have:=HJ22.out;have:=HJ36.out;omega⟩,⟨by (with_reducible repeat (first|apply ra_|apply rn_|apply rd_));exact Kd.R_mono (Kd.R_far (p:=⟨gb192,1,none⟩) (Kd.R_far (p:=⟨gb192,0,none⟩) (Kd.R_mono HO_6.out (fun k_ hk=>(⟨hk,hk.2.2.1⟩ : _∧k_ ≠ gb192))) (fun _ hk=>hk.2) (.int .i64 (wrap64 (x193000_1 + t196)))) (fun _ hk=>hk.2) (.int .i64 (wrap64 (x193001_1 + t197)))) (fun _ hk=>⟨hk.1.1,⟨hk.1.2.1,hk.1.2.2.1⟩⟩)⟩,⟨by (with_reducible repeat (first|apply ra_|apply rn_|apply rd_));exact Kd.R_mono (Kd.R_far (p:=⟨gb192,1,none⟩) (Kd.R_far (p:=⟨gb192,0,none⟩) (Kd.R_mono HO_8.out (fun k_ hk=>(⟨hk,hk.2.2.1⟩ : _∧k_ ≠ gb192))) (fun _ hk=>hk.2) (.int .i64 (wrap64 (x193000_1 + t196)))) (fun _ hk=>hk.2) (.int .i64 (wrap64 (x193001_1 + t197)))) (fun _ hk=>⟨hk.1.1,⟨hk.1.2.1,hk.1.2.2.1⟩⟩)⟩,⟨by (with_reducible repeat (first|apply ra_|apply rn_|apply rd_));exact Kd.R_mono (Kd.R_far (p:=⟨gb192,1,none⟩) (Kd.R_far (p:=⟨gb192,0,none⟩) (Kd.R_mono HO_9.out (fun k_ hk=>(⟨hk,hk.2.2.1⟩ : _∧k_ ≠ gb192))) (fun _ hk=>hk.2) (.int .i64 (wrap64 (x193000_1 + t196)))) (fun _ hk=>hk.2) (.int .i64 (wrap64 (x193001_1 + t197)))) (fun _ hk=>⟨hk.1.1,⟨hk.1.2.1,hk.1.2.2.1⟩⟩)⟩,⟨by (with_reducible repeat (first|refine kn_ ?_ _|refine kd_ ?_|refine ka_ ?_ _));refine blk_put (cs:=#[.int .i64 (wrap64 (x193000_1 + t196)),.int .i64 x193001_1]) ?_ 1 _ rfl;(with_reducible repeat (first|refine kn_ ?_ _|refine kd_ ?_|refine ka_ ?_ _));refine blk_put (cs:=#[.int .i64 x193000_1,.int .i64 x193001_1]) ?_ 0 _ rfl;(with_reducible repeat (first|refine kn_ ?_ _|refine kd_ ?_|refine ka_ ?_ _));exact BK192.out⟩,⟨by repeat (first|(with_reducible first|exact HB.out|apply ba_|apply bn_|apply bd_|refine below_set ?_ GE192.out|refine below_set ?_ GE200.out|refine below_set ?_ GE201.out)|exact HB.out)⟩⟩
               replace c40:=Bool.eq_false_iff.mpr c40
               subst c40
               have H1 : (if x17_36 = true then (convex_Sum.l0 kj36 t180 t184 y193 x11_1 (wrap64 (x12_1 + 1)) (wrap64 (x193000_1 + t198)) (wrap64 (x193001_1 + t199))) else (convex_Sum.l0 kj36 t180 t184 y193 x11_1 x12_1 x193000_1 x193001_1)) = some (r1,r2):=by rw [if_neg (show ¬ (false = true) by decide)] at H;exact H
               clear H
               have H:=H1
               clear H1
               by_cases c52 : x17_36 = true
               ·
                subst c52
                have H1 : (convex_Sum.l0 kj36 t180 t184 y193 x11_1 (wrap64 (x12_1 + 1)) (wrap64 (x193000_1 + t198)) (wrap64 (x193001_1 + t199))) = some (r1,r2):=by rw [if_pos rfl] at H;exact H
                clear H
                have H:=H1
                clear H1
                have H':=Aside0.mk H
                clear H
                try go_wp2
                have n0_:=Aside0.mk (rd_ HO_6.out)
                have n1_:=Aside0.mk (rd_ HO_8.out)
                have n2_:=Aside0.mk (rd_ HO_9.out)
                have n3_:=Aside0.mk (kd_ BK192.out)
                have n4_:=Aside0.mk (kd_ BK200.out)
                have n5_:=Aside0.mk (kd_ BK201.out)
                have n6_:=Aside0.mk (bd_ HB.out)
                clear HO_6
                clear HO_8
                clear HO_9
                clear BK192
                clear BK200
                clear BK201
                clear HB
                have HO_6:=n0_
                have HO_8:=n1_
                have HO_9:=n2_
                have BK192:=n3_
                have BK200:=n4_
                have BK201:=n5_
                have HB:=n6_
                clear n0_ n1_ n2_ n3_ n4_ n5_ n6_
                refine start_ (n:=14) (S:=fun w'=>w'.cell? ⟨gb192,0,none⟩ = some (.int .i64 x193000_1)∧w'.cell? ⟨gb192,1,none⟩ = some (.int .i64 x193001_1)∧w'.cell? ⟨gb201,0,none⟩ = some (.int .i64 t198)∧w'.cell? ⟨gb201,1,none⟩ = some (.int .i64 t199)) (ds:=[11,13]) #[false,false,false,false,false,false,false,false,false,false,false,false,false,false] (by kernel_rfl) rfl rfl ⟨(blk_cell BK192.out 0).trans rfl,(blk_cell BK192.out 1).trans rfl,(blk_cell BK201.out 0).trans rfl,(blk_cell BK201.out 1).trans rfl⟩ (fun hHeld=>?_);refine with_tabW convex_Sum.tab20 convex_Sum.bits20 (fun HT_ HW_=>?_)
                generalize wc.drew = w53 at HO_6 HO_8 HO_9 BK192 BK200 BK201 HB hHeld ⊢
                refine pure_ (i:=0) (N:=some 130) (v:=?_) (a':=?_) #[true,false,false,false,false,false,false,false,false,false,false,false,false,false] rfl rfl (any_of HT_.out (by kernel_rfl)) (fun _ _ _ h=>h) (Or.inl ⟨by rfl,?_⟩) ?_ ?_
                rotate_left
                ·
                 intro w'
                 go_simp
                 with_reducible rfl
                rotate_left
                ·
                 simp only [Act.put,la_,l0_,l1_,i64_w,i32_w]
                 rfl
                refine pure_ (i:=2) (N:=some 132) (v:=?_) (a':=?_) #[true,false,true,false,false,false,false,false,false,false,false,false,false,false] rfl rfl (any_of HT_.out (by kernel_rfl)) (fun _ _ _ h=>h) (Or.inl ⟨by rfl,?_⟩) ?_ ?_
                rotate_left
                ·
                 intro w'
                 go_simp
                 with_reducible rfl
                rotate_left
                ·
                 simp only [Act.put,la_,l0_,l1_,i64_w,i32_w]
                 rfl
                refine pure_ (i:=5) (N:=some 135) (v:=?_) (a':=?_) #[true,false,true,false,false,true,false,false,false,false,false,false,false,false] rfl rfl (any_of HT_.out (by kernel_rfl)) (fun _ _ _ h=>h) (Or.inl ⟨by rfl,?_⟩) ?_ ?_
                rotate_left
                ·
                 intro w'
                 go_simp
                 with_reducible rfl
                rotate_left
                ·
                 simp only [Act.put,la_,l0_,l1_,i64_w,i32_w]
                 rfl
                refine pure_ (i:=7) (N:=some 137) (v:=?_) (a':=?_) #[true,false,true,false,false,true,false,true,false,false,false,false,false,false] rfl rfl (any_of HT_.out (by kernel_rfl)) (fun _ _ _ h=>h) (Or.inl ⟨by rfl,?_⟩) ?_ ?_
                rotate_left
                ·
                 intro w'
                 go_simp
                 with_reducible rfl
                rotate_left
                ·
                 simp only [Act.put,la_,l0_,l1_,i64_w,i32_w]
                 rfl
                refine take_ (i:=1) (N:=some 131) (v:=?_) (a':=?_) #[true,true,true,false,false,true,false,true,false,false,false,false,false,false] rfl rfl (take_ofW HT_.out HW_.out (by kernel_rfl)) (fun _ _ _ h=>h) (Or.inl ⟨by rfl,?_⟩) hHeld ?_ ?_
                rotate_left
                ·
                 rintro w' ⟨s0,s1,s2,s3⟩
                 go_simp
                 with_reducible rfl
                rotate_left
                ·
                 simp only [Act.put,la_,l0_,l1_,i64_w,i32_w]
                 rfl
                refine take_ (i:=3) (N:=some 133) (v:=?_) (a':=?_) #[true,true,true,true,false,true,false,true,false,false,false,false,false,false] rfl rfl (take_ofW HT_.out HW_.out (by kernel_rfl)) (fun _ _ _ h=>h) (Or.inl ⟨by rfl,?_⟩) hHeld ?_ ?_
                rotate_left
                ·
                 rintro w' ⟨s0,s1,s2,s3⟩
                 go_simp
                 with_reducible rfl
                rotate_left
                ·
                 simp only [Act.put,la_,l0_,l1_,i64_w,i32_w]
                 rfl
                refine pure_ (i:=4) (N:=some 134) (v:=?_) (a':=?_) #[true,true,true,true,true,true,false,true,false,false,false,false,false,false] rfl rfl (any_of HT_.out (by kernel_rfl)) (fun _ _ _ h=>h) (Or.inl ⟨by rfl,?_⟩) ?_ ?_
                rotate_left
                ·
                 intro w'
                 go_simp
                 with_reducible rfl
                rotate_left
                ·
                 simp only [Act.put,la_,l0_,l1_,i64_w,i32_w]
                 rfl
                refine take_ (i:=6) (N:=some 136) (v:=?_) (a':=?_) #[true,true,true,true,true,true,true,true,false,false,false,false,false,false] rfl rfl (take_ofW HT_.out HW_.out (by kernel_rfl)) (fun _ _ _ h=>h) (Or.inl ⟨by rfl,?_⟩) hHeld ?_ ?_
                rotate_left
                ·
                 rintro w' ⟨s0,s1,s2,s3⟩
                 go_simp
                 with_reducible rfl
                rotate_left
                ·
                 simp only [Act.put,la_,l0_,l1_,i64_w,i32_w]
                 rfl
                refine pure_ (i:=10) (N:=some 140) (v:=?_) (a':=?_) #[true,true,true,true,true,true,true,true,false,false,true,false,false,false] rfl rfl (any_of HT_.out (by kernel_rfl)) (fun _ _ _ h=>h) (Or.inl ⟨by rfl,?_⟩) ?_ ?_
                rotate_left
                ·
                 intro w'
                 go_simp
                 with_reducible rfl
                rotate_left
                ·
                 simp only [Act.put,la_,l0_,l1_,i64_w,i32_w]
                 rfl
                refine ends_ (fuel':=0) (l':=#[true,true,true,true,true,true,true,true,true,true,true,true,true,true]) (a1:=?_) (w1:=?_) (fun hEnd_=>?_) ?_
                rotate_right
                rotate_right
                ·
                 skip
                 refine orders_ (rs:=[8,11]) (by kernel_rfl) (by simp) ?_
                 refine orderR_ (i:=8) (N:=some 138) (v:=?_) (a':=?_) #[true,true,true,true,true,true,true,true,true,false,true,false,false,false] rfl rfl (by kernel_rfl) (by rfl) ?_ ?_ ?_ ?_
                 rotate_left
                 ·
                  have hTold_:=hHeld
                  obtain ⟨s0,s1,s2,s3⟩:=hTold_
                  go_simp
                  with_reducible rfl
                 rotate_left
                 ·
                  simp only [Act.put,la_,l0_,l1_,i64_w,i32_w]
                  rfl
                 ·
                  skip
                  refine pure_ (i:=9) (N:=some 139) (v:=?_) (a':=?_) #[true,true,true,true,true,true,true,true,true,true,true,false,false,false] rfl rfl (any_of HT_.out (by kernel_rfl)) (fun _ _ _ h=>h) (Or.inl ⟨by rfl,?_⟩) ?_ ?_
                  rotate_left
                  ·
                   intro w'
                   go_simp
                   with_reducible rfl
                  rotate_left
                  ·
                   simp only [Act.put,la_,l0_,l1_,i64_w,i32_w]
                   rfl
                  refine orders_ (rs:=[11]) (by kernel_rfl) (by simp) ?_
                  refine orderS_ (i:=11) (N:=none) #[true,true,true,true,true,true,true,true,true,true,true,true,false,false] rfl rfl (by kernel_rfl) (by decide) (fun K hK=>?_) ?_
                  ·
                   skip
                   have hs54 : w53.cell? ⟨gb192,0,none⟩ = some (.int .i64 x193000_1):=(blk_cell BK192.out 0).trans rfl
                   have hfs54:=blk_frozen BK192.out 0
                   have hns54_1:=NB200_192.out
                   have hns54_2:=NB201_192.out
                   have hms54_1:=NB192_200.out
                   have hms54_2:=NB192_201.out
                   refine skip_ (w1:=?_) (by rfl) rfl ?_ ?_
                   rotate_left
                   ·
                    go_simp
                    rfl
                   refine hK.out _ _ ?_
                   clear hK K
                   refine pure_ (i:=12) (N:=some 141) (v:=?_) (a':=?_) #[true,true,true,true,true,true,true,true,true,true,true,true,true,false] rfl rfl (any_of HT_.out (by kernel_rfl)) (fun _ _ _ h=>h) (Or.inl ⟨by rfl,?_⟩) ?_ ?_
                   rotate_left
                   ·
                    intro w'
                    go_simp
                    with_reducible rfl
                   rotate_left
                   ·
                    simp only [Act.put,la_,l0_,l1_,i64_w,i32_w]
                    rfl
                   refine orders_ (rs:=[13]) (by kernel_rfl) (by simp) ?_
                   refine orderS_ (i:=13) (N:=none) #[true,true,true,true,true,true,true,true,true,true,true,true,true,true] rfl rfl (by kernel_rfl) (by decide) (fun K hK=>?_) ?_
                   ·
                    skip
                    have hs55 : w53.cell? ⟨gb192,1,none⟩ = some (.int .i64 x193001_1):=(blk_cell BK192.out 1).trans rfl
                    have hfs55:=blk_frozen BK192.out 1
                    have hns55_1:=NB200_192.out
                    have hns55_2:=NB201_192.out
                    have hms55_1:=NB192_200.out
                    have hms55_2:=NB192_201.out
                    refine skip_ (w1:=?_) (by rfl) rfl ?_ ?_
                    rotate_left
                    ·
                     go_simp
                     rfl
                    refine hK.out _ _ ?_
                    clear hK K
                    refine hEnd_ _ _ ?_ ?_
                    ·
                     rfl
                    rfl
                   exact AllReadyL.nil
                  exact AllReadyL.nil
                 refine orderS_ (i:=11) (N:=none) #[true,true,true,true,true,true,true,true,false,false,true,true,false,false] rfl rfl (by kernel_rfl) (by decide) (fun K hK=>?_) ?_
                 ·
                  skip
                  have hs54 : w53.cell? ⟨gb192,0,none⟩ = some (.int .i64 x193000_1):=(blk_cell BK192.out 0).trans rfl
                  have hfs54:=blk_frozen BK192.out 0
                  have hns54_1:=NB200_192.out
                  have hns54_2:=NB201_192.out
                  have hms54_1:=NB192_200.out
                  have hms54_2:=NB192_201.out
                  refine skip_ (w1:=?_) (by rfl) rfl ?_ ?_
                  rotate_left
                  ·
                   go_simp
                   rfl
                  refine hK.out _ _ ?_
                  clear hK K
                  refine orders_ (rs:=[8]) (by kernel_rfl) (by simp) ?_
                  refine orderR_ (i:=8) (N:=some 138) (v:=?_) (a':=?_) #[true,true,true,true,true,true,true,true,true,false,true,true,false,false] rfl rfl (by kernel_rfl) (by rfl) ?_ ?_ ?_ ?_
                  rotate_left
                  ·
                   have hTold_:=hHeld
                   obtain ⟨s0,s1,s2,s3⟩:=hTold_
                   go_simp
                   with_reducible rfl
                  rotate_left
                  ·
                   simp only [Act.put,la_,l0_,l1_,i64_w,i32_w]
                   rfl
                  ·
                   skip
                   refine pure_ (i:=9) (N:=some 139) (v:=?_) (a':=?_) #[true,true,true,true,true,true,true,true,true,true,true,true,false,false] rfl rfl (any_of HT_.out (by kernel_rfl)) (fun _ _ _ h=>h) (Or.inl ⟨by rfl,?_⟩) ?_ ?_
                   rotate_left
                   ·
                    intro w'
                    go_simp
                    with_reducible rfl
                   rotate_left
                   ·
                    simp only [Act.put,la_,l0_,l1_,i64_w,i32_w]
                    rfl
                   refine pure_ (i:=12) (N:=some 141) (v:=?_) (a':=?_) #[true,true,true,true,true,true,true,true,true,true,true,true,true,false] rfl rfl (any_of HT_.out (by kernel_rfl)) (fun _ _ _ h=>h) (Or.inl ⟨by rfl,?_⟩) ?_ ?_
                   rotate_left
                   ·
                    intro w'
                    go_simp
                    with_reducible rfl
                   rotate_left
                   ·
                    simp only [Act.put,la_,l0_,l1_,i64_w,i32_w]
                    rfl
                   refine orders_ (rs:=[13]) (by kernel_rfl) (by simp) ?_
                   refine orderS_ (i:=13) (N:=none) #[true,true,true,true,true,true,true,true,true,true,true,true,true,true] rfl rfl (by kernel_rfl) (by decide) (fun K hK=>?_) ?_
                   ·
                    skip
                    have hs55 : w53.cell? ⟨gb192,1,none⟩ = some (.int .i64 x193001_1):=(blk_cell BK192.out 1).trans rfl
                    have hfs55:=blk_frozen BK192.out 1
                    have hns55_1:=NB200_192.out
                    have hns55_2:=NB201_192.out
                    have hms55_1:=NB192_200.out
                    have hms55_2:=NB192_201.out
                    refine skip_ (w1:=?_) (by rfl) rfl ?_ ?_
                    rotate_left
                    ·
                     go_simp
                     rfl
                    refine hK.out _ _ ?_
                    clear hK K
                    refine hEnd_ _ _ ?_ ?_
                    ·
                     rfl
                    rfl
                   exact AllReadyL.nil
                  exact AllReadyL.nil
                 exact AllReadyL.nil
                refine done_ (done_of HT_.out (by kernel_rfl)) ?_
                try go_wp2
                go_roundg kj36
                case measure=>have:=HK1.out;have:=HJ16.out;have:=HJ22.out;have:=HJ36.out;omega
                case rel=>exact ⟨(y193),(x11_1),(wrap64 (x12_1 + 1)),(wrap64 (x193000_1 + t198)),(wrap64 (x193001_1 + t199)),(by first|rfl|(simp;done)|(simp [*];done)),(by first|rfl|(simp;done)|(simp [*];done)),H',⟨by have:=HK1.out;have:=HJ16.out;have:=HJ22.out;have:=HJ36.out;omega⟩,⟨by (with_reducible repeat (first|apply ra_|apply rn_|apply rd_));exact Kd.R_mono (Kd.R_far (p:=⟨gb192,1,none⟩) (Kd.R_far (p:=⟨gb192,0,none⟩) (Kd.R_mono HO_6.out (fun k_ hk=>(⟨hk,hk.2.2.1⟩ : _∧k_ ≠ gb192))) (fun _ hk=>hk.2) (.int .i64 (wrap64 (x193000_1 + t198)))) (fun _ hk=>hk.2) (.int .i64 (wrap64 (x193001_1 + t199)))) (fun _ hk=>⟨hk.1.1,⟨hk.1.2.1,hk.1.2.2.1⟩⟩)⟩,⟨by (with_reducible repeat (first|apply ra_|apply rn_|apply rd_));exact Kd.R_mono (Kd.R_far (p:=⟨gb192,1,none⟩) (Kd.R_far (p:=⟨gb192,0,none⟩) (Kd.R_mono HO_8.out (fun k_ hk=>(⟨hk,hk.2.2.1⟩ : _∧k_ ≠ gb192))) (fun _ hk=>hk.2) (.int .i64 (wrap64 (x193000_1 + t198)))) (fun _ hk=>hk.2) (.int .i64 (wrap64 (x193001_1 + t199)))) (fun _ hk=>⟨hk.1.1,⟨hk.1.2.1,hk.1.2.2.1⟩⟩)⟩,⟨by (with_reducible repeat (first|apply ra_|apply rn_|apply rd_));exact Kd.R_mono (Kd.R_far (p:=⟨gb192,1,none⟩) (Kd.R_far (p:=⟨gb192,0,none⟩) (Kd.R_mono HO_9.out (fun k_ hk=>(⟨hk,hk.2.2.1⟩ : _∧k_ ≠ gb192))) (fun _ hk=>hk.2) (.int .i64 (wrap64 (x193000_1 + t198)))) (fun _ hk=>hk.2) (.int .i64 (wrap64 (x193001_1 + t199)))) (fun _ hk=>⟨hk.1.1,⟨hk.1.2.1,hk.1.2.2.1⟩⟩)⟩,⟨by (with_reducible repeat (first|refine kn_ ?_ _|refine kd_ ?_|refine ka_ ?_ _));refine blk_put (cs:=#[.int .i64 (wrap64 (x193000_1 + t198)),.int .i64 x193001_1]) ?_ 1 _ rfl;(with_reducible repeat (first|refine kn_ ?_ _|refine kd_ ?_|refine ka_ ?_ _));refine blk_put (cs:=#[.int .i64 x193000_1,.int .i64 x193001_1]) ?_ 0 _ rfl;(with_reducible repeat (first|refine kn_ ?_ _|refine kd_ ?_|refine ka_ ?_ _));exact BK192.out⟩,⟨by repeat (first|(with_reducible first|exact HB.out|apply ba_|apply bn_|apply bd_|refine below_set ?_ GE192.out|refine below_set ?_ GE200.out|refine below_set ?_ GE201.out)|exact HB.out)⟩⟩
               replace c52:=Bool.eq_false_iff.mpr c52
               subst c52
               have H1 : (convex_Sum.l0 kj36 t180 t184 y193 x11_1 x12_1 x193000_1 x193001_1) = some (r1,r2):=by rw [if_neg (show ¬ (false = true) by decide)] at H;exact H
               clear H
               have H:=H1
               clear H1
               have H':=Aside0.mk H
               clear H
               go_wp2
               go_roundg kj36
               case measure=>have:=HK1.out;have:=HJ16.out;have:=HJ22.out;have:=HJ36.out;omega
               case rel=>exact ⟨(y193),(x11_1),(x12_1),(x193000_1),(x193001_1),(by first|rfl|(simp;done)|(simp [*];done)),(by first|rfl|(simp;done)|(simp [*];done)),H',⟨by have:=HK1.out;have:=HJ16.out;have:=HJ22.out;have:=HJ36.out;omega⟩,⟨by (with_reducible repeat (first|apply ra_|apply rn_|apply rd_));exact Kd.R_mono HO_6.out (fun _ hk=>⟨hk.1,⟨hk.2.1,hk.2.2.1⟩⟩)⟩,⟨by (with_reducible repeat (first|apply ra_|apply rn_|apply rd_));exact Kd.R_mono HO_8.out (fun _ hk=>⟨hk.1,⟨hk.2.1,hk.2.2.1⟩⟩)⟩,⟨by (with_reducible repeat (first|apply ra_|apply rn_|apply rd_));exact Kd.R_mono HO_9.out (fun _ hk=>⟨hk.1,⟨hk.2.1,hk.2.2.1⟩⟩)⟩,⟨by (with_reducible repeat (first|refine kn_ ?_ _|refine kd_ ?_|refine ka_ ?_ _));exact BK192.out⟩,⟨by repeat (first|(with_reducible first|exact HB.out|apply ba_|apply bn_|apply bd_|refine below_set ?_ GE192.out|refine below_set ?_ GE200.out|refine below_set ?_ GE201.out)|exact HB.out)⟩⟩
          rw [if_neg c20] at H
          exact absurd H (by simp)
         replace c19:=Bool.eq_false_iff.mpr c19
         subst c19
         have H1 : (convex_Sum.l1 kj16 x9_1 x9_1 (x9_1.length : Int) 0) = some (r1,r2):=by rw [if_neg (show ¬ (false = true) by decide)] at H;exact H
         clear H
         have H:=H1
         clear H1
         have H':=Aside0.mk H
         clear H
         obtain ⟨Ao56,co56,eo56⟩:=Kd.R_slice HO_9.out
         subst eo56
         go_wp2
         go_loopg [146] kj16 (fun kq v146 w'=>∃ (x146_3 : Int),v146 = .int .i64 x146_3∧Aside0 (convex_Sum.l1 kq x9_1 x9_1 (x9_1.length : Int) x146_3 = some (r1,r2))∧Aside0 (kq ≤ kj16)∧Aside0 (Kd.R k30 30 w' w.heap.size (fun k_=>k_ ≠ gb192) (.slice Ao56 x9_1.length co56) x9_1)∧Aside0 (Kd.R k30 30 w' w.heap.size (fun k_=>k_ ≠ gb192) (.slice Ao56 x9_1.length co56) x9_1)∧Aside0 (w'.heap[gb192]? = some (.cells #[.int .i64 x193000_1,.int .i64 x193001_1] 30 (0,0)))∧Aside0 (Below w.heap.size w w'))
         case atStart=>exact ⟨(0),(by first|rfl|(simp;done)|(simp [*];done)),H',⟨Nat.le_refl _⟩,⟨by (with_reducible repeat (first|apply ra_|apply rn_|apply rd_));exact Kd.R_mono HO_9.out (fun _ hk=>hk.2.2)⟩,⟨by (with_reducible repeat (first|apply ra_|apply rn_|apply rd_));exact Kd.R_mono HO_9.out (fun _ hk=>hk.2.2)⟩,⟨by (with_reducible repeat (first|refine kn_ ?_ _|refine kd_ ?_|refine ka_ ?_ _));exact BK192.out⟩,⟨by repeat (first|(with_reducible first|exact HB.out|apply ba_|apply bn_|apply bd_|refine below_set ?_ GE192.out)|exact HB.out)⟩⟩
         case round =>
          clear H'
          try clear c1
          try clear c2
          try clear p2
          try clear c4
          try clear c5
          try clear p6
          try clear c19
          try clear c20
          try clear c40
          try clear c41
          try clear c52
          obtain ⟨x146_3,rfl,HA,HK3,HO_9,HO_144,BK192,HB⟩:=hrel
          cases gk with
          | zero=>exact absurd HA.out (by simp [convex_Sum.l1])
          | succ k3 =>
           have H:=HA.out
           clear HA
           simp only [convex_Sum.l1] at H
           by_cases c57 : x146_3 < (x9_1.length : Int)
           ·
            rw [if_pos c57] at H
            have c57b0 : decide (x146_3 < (x9_1.length : Int)) = true:=decide_eq_true c57
            clear c57
            by_cases c58 : 0 ≤ x146_3
            ·
             rw [if_pos c58] at H
             have c58b0 : decide (0 ≤ x146_3) = true:=decide_eq_true c58
             clear c58
             by_cases c59 : x146_3 < (x9_1.length : Int)
             ·
              rw [if_pos c59] at H
              have c59b0 : decide (x146_3 < (x9_1.length : Int)) = true:=decide_eq_true c59
              clear c59
              replace H:=Option.bind_eq_some_iff.mp H
              obtain ⟨t204,A600,H⟩:=H
              replace H : (if t204 = true then (convex_Sum.l1 k3 x9_1 x9_1 (x9_1.length : Int) (wrap64 (x146_3 + 1))) else (some (([] : List (S30)),3))) = some (r1,r2):=H
              have A60:=Aside0.mk A600
              clear A600
              by_cases c61 : t204 = true
              ·
               subst c61
               have H1 : (convex_Sum.l1 k3 x9_1 x9_1 (x9_1.length : Int) (wrap64 (x146_3 + 1))) = some (r1,r2):=by rw [if_pos rfl] at H;exact H
               clear H
               have H:=H1
               clear H1
               have H':=Aside0.mk H
               clear H
               have p202 : 0 ≤ (x146_3 : Int):=of_decide_eq_true (by first|(with_reducible assumption)|assumption)
               have q202 : x146_3 < (x9_1.length : Int):=of_decide_eq_true (by first|(with_reducible assumption)|assumption)
               obtain ⟨ad202,e202,hx202_0,hx202_1⟩:=at_T30 (Kd.R_reads' HO_144.out).2.2 x146_3 p202 q202
               cases e202
               replace p202:=eq_true p202
               replace q202:=eq_true q202
               go_wp2_with (first|((with_reducible refine gate_dst (N:=19) rfl ?_);(try (refine gate_guard (by rfl) ?_;dsimp only));refine box_event ?hg (N:=19) ?hd (cs:=#[.int .i64 0,.int .i64 0]) (t:=30) ?hr ?_;(case hd=>rfl);(case hg=>rfl);(case hr=>first|(go_simp;done)|(go_simp;rfl));intro gb203 hg w62 hbox hb;have n0_:=Aside0.mk (Kd.R_below (Kd.R_elderB (by (with_reducible repeat (first|apply ra_|apply rn_|apply rd_));exact HO_9.out) gb203 (Nat.le_of_eq hg.symm)) hb);have n1_:=Aside0.mk (Kd.R_below (Kd.R_elderB (by (with_reducible repeat (first|apply ra_|apply rn_|apply rd_));exact HO_144.out) gb203 (Nat.le_of_eq hg.symm)) hb);have n2_:=Aside0.mk (blk_below (g:=gb192) (o:=.cells #[.int .i64 x193000_1,.int .i64 x193001_1] 30 (0,0)) (by (with_reducible repeat (first|refine kn_ ?_ _|refine kd_ ?_|refine ka_ ?_ _));exact BK192.out) hb);have n3_:=Aside0.mk (below_step (by repeat (first|(with_reducible first|exact HB.out|apply ba_|apply bn_|apply bd_|refine below_set ?_ GE192.out)|exact HB.out)) hb);have n4_:=Aside0.mk (hbox);have n5_:=Aside0.mk ((by rw [hg];exact (below_size (by repeat (first|(with_reducible first|exact HB.out|apply ba_|apply bn_|apply bd_|refine below_set ?_ GE192.out)|exact HB.out))) : w.heap.size ≤ gb203));have n6_:=Aside0.mk ((by rw [hg];exact (below_size (by repeat (first|(with_reducible first|exact HB.out|apply ba_|apply bn_|apply bd_|refine below_set ?_ GE192.out)|exact HB.out))) : w.heap.size ≤ gb203));have n7_:=Aside0.mk ((by rw [hg];exact Nat.ne_of_lt (blk_lt (g:=gb192) (o:=.cells #[.int .i64 x193000_1,.int .i64 x193001_1] 30 (0,0)) (by (with_reducible repeat (first|refine kn_ ?_ _|refine kd_ ?_|refine ka_ ?_ _));exact BK192.out)) : gb192 ≠ gb203));have n8_:=Aside0.mk ((by rw [hg];exact Nat.ne_of_gt (blk_lt (g:=gb192) (o:=.cells #[.int .i64 x193000_1,.int .i64 x193001_1] 30 (0,0)) (by (with_reducible repeat (first|refine kn_ ?_ _|refine kd_ ?_|refine ka_ ?_ _));exact BK192.out)) : gb203 ≠ gb192));clear HO_9;clear HO_144;clear BK192;clear HB;have HO_9:=n0_;have HO_144:=n1_;have BK192:=n2_;have HB:=n3_;have BK203:=n4_;have GW203:=n5_;have GE203:=n6_;have NB192_203:=n7_;have NB203_192:=n8_;clear n0_ n1_ n2_ n3_ n4_ n5_ n6_ n7_ n8_;clear hb hbox hg;have hnb63:=NB203_192.out;have hnc63:=NB192_203.out;have hcz64_0 : w62.cell? ⟨gb203,0,none⟩ = some (.int .i64 0):=(blk_cell BK203.out 0).trans rfl;have hcz64_1 : w62.cell? ⟨gb203,1,none⟩ = some (.int .i64 0):=(blk_cell BK203.out 1).trans rfl;have hfz64_0:=blk_frozen BK203.out 0;have hfz64_1:=blk_frozen BK203.out 1)|((with_reducible refine gate_callee (f:=29) rfl ?_);refine goesL_ (some 151) rfl rfl Try.func29 (by kernel_rfl) rfl #[.agg #[.int .i64 ((rd_T30 x9_1 x146_3).f0),.int .i64 ((rd_T30 x9_1 x146_3).f1)]] rfl (by (try simp only [List.map_toArray,List.map_cons,List.map_nil]);first|done|rfl|(simp only [List.length_drop,List.length_take];rfl)) ?_;(with_reducible refine (convex_near.calls ((rd_T30 x9_1 x146_3).f0) ((rd_T30 x9_1 x146_3).f1) true _ A60.out).mono ?_);rintro e w65 ⟨rfl,hb⟩;refine ⟨_,rfl,?_⟩;have n0_:=Aside0.mk (Kd.R_below (by (with_reducible repeat (first|apply ra_|apply rn_|apply rd_));exact (Kd.R_mono (Kd.R_far (p:=⟨gb203,1,none⟩) (Kd.R_far (p:=⟨gb203,0,none⟩) (Kd.R_mono HO_9.out (fun k_ hk=>(⟨hk,hk.2⟩ : _∧k_ ≠ gb203))) (fun _ hk=>hk.2) (.int .i64 ((rd_T30 x9_1 x146_3).f0))) (fun _ hk=>hk.2) (.int .i64 ((rd_T30 x9_1 x146_3).f1))) (fun _ h_=>h_.1))) hb);have n1_:=Aside0.mk (Kd.R_below (by (with_reducible repeat (first|apply ra_|apply rn_|apply rd_));exact (Kd.R_mono (Kd.R_far (p:=⟨gb203,1,none⟩) (Kd.R_far (p:=⟨gb203,0,none⟩) (Kd.R_mono HO_144.out (fun k_ hk=>(⟨hk,hk.2⟩ : _∧k_ ≠ gb203))) (fun _ hk=>hk.2) (.int .i64 ((rd_T30 x9_1 x146_3).f0))) (fun _ hk=>hk.2) (.int .i64 ((rd_T30 x9_1 x146_3).f1))) (fun _ h_=>h_.1))) hb);have n2_:=Aside0.mk (blk_below (g:=gb192) (o:=.cells #[.int .i64 x193000_1,.int .i64 x193001_1] 30 (0,0)) (by (with_reducible repeat (first|refine kn_ ?_ _|refine kd_ ?_|refine ka_ ?_ _));refine blk_far ?_ NB192_203.out _;(with_reducible repeat (first|refine kn_ ?_ _|refine kd_ ?_|refine ka_ ?_ _));refine blk_far ?_ NB192_203.out _;(with_reducible repeat (first|refine kn_ ?_ _|refine kd_ ?_|refine ka_ ?_ _));exact BK192.out) hb);have n3_:=Aside0.mk (blk_below (g:=gb203) (o:=.cells #[.int .i64 ((rd_T30 x9_1 x146_3).f0),.int .i64 ((rd_T30 x9_1 x146_3).f1)] 30 (0,0)) (by (with_reducible repeat (first|refine kn_ ?_ _|refine kd_ ?_|refine ka_ ?_ _));refine blk_put (cs:=#[.int .i64 ((rd_T30 x9_1 x146_3).f0),.int .i64 0]) ?_ 1 _ rfl;(with_reducible repeat (first|refine kn_ ?_ _|refine kd_ ?_|refine ka_ ?_ _));refine blk_put (cs:=#[.int .i64 0,.int .i64 0]) ?_ 0 _ rfl;(with_reducible repeat (first|refine kn_ ?_ _|refine kd_ ?_|refine ka_ ?_ _));exact BK203.out) hb);have n4_:=Aside0.mk (below_step (by repeat (first|(with_reducible first|exact HB.out|apply ba_|apply bn_|apply bd_|refine below_set ?_ GE192.out|refine below_set ?_ GE203.out)|exact HB.out)) hb);clear HO_9;clear HO_144;clear BK192;clear BK203;clear HB;have HO_9:=n0_;have HO_144:=n1_;have BK192:=n2_;have BK203:=n3_;have HB:=n4_;clear n0_ n1_ n2_ n3_ n4_;(try clear hb);(try clear hb2);(try clear hk);(try clear hi)))
               go_roundg k3
               case measure=>have:=HK1.out;have:=HJ16.out;have:=HK3.out;omega
               case rel=>exact ⟨(wrap64 (x146_3 + 1)),(by first|rfl|(simp;done)|(simp [*];done)),H',⟨by have:=HK1.out;have:=HJ16.out;have:=HK3.out;omega⟩,⟨by (with_reducible repeat (first|apply ra_|apply rn_|apply rd_));exact Kd.R_mono HO_9.out (fun _ hk=>hk.1)⟩,⟨by (with_reducible repeat (first|apply ra_|apply rn_|apply rd_));exact Kd.R_mono HO_144.out (fun _ hk=>hk.1)⟩,⟨by (with_reducible repeat (first|refine kn_ ?_ _|refine kd_ ?_|refine ka_ ?_ _));exact BK192.out⟩,⟨by repeat (first|(with_reducible first|exact HB.out|apply ba_|apply bn_|apply bd_|refine below_set ?_ GE192.out|refine below_set ?_ GE203.out)|exact HB.out)⟩⟩
              replace c61:=Bool.eq_false_iff.mpr c61
              subst c61
              have H1 : (some (([] : List (S30)),3)) = some (r1,r2):=by rw [if_neg (show ¬ (false = true) by decide)] at H;exact H
              clear H
              have H:=H1
              clear H1
              simp only [Option.some.injEq,Prod.mk.injEq] at H
              obtain ⟨rfl,rfl⟩:=H
              have p202 : 0 ≤ (x146_3 : Int):=of_decide_eq_true (by first|(with_reducible assumption)|assumption)
              have q202 : x146_3 < (x9_1.length : Int):=of_decide_eq_true (by first|(with_reducible assumption)|assumption)
              obtain ⟨ad202,e202,hx202_0,hx202_1⟩:=at_T30 (Kd.R_reads' HO_144.out).2.2 x146_3 p202 q202
              cases e202
              replace p202:=eq_true p202
              replace q202:=eq_true q202
              go_wp2_with (first|((with_reducible refine gate_dst (N:=19) rfl ?_);(try (refine gate_guard (by rfl) ?_;dsimp only));refine box_event ?hg (N:=19) ?hd (cs:=#[.int .i64 0,.int .i64 0]) (t:=30) ?hr ?_;(case hd=>rfl);(case hg=>rfl);(case hr=>first|(go_simp;done)|(go_simp;rfl));intro gb203 hg w66 hbox hb;have n0_:=Aside0.mk (Kd.R_below (Kd.R_elderB (by (with_reducible repeat (first|apply ra_|apply rn_|apply rd_));exact HO_9.out) gb203 (Nat.le_of_eq hg.symm)) hb);have n1_:=Aside0.mk (Kd.R_below (Kd.R_elderB (by (with_reducible repeat (first|apply ra_|apply rn_|apply rd_));exact HO_144.out) gb203 (Nat.le_of_eq hg.symm)) hb);have n2_:=Aside0.mk (blk_below (g:=gb192) (o:=.cells #[.int .i64 x193000_1,.int .i64 x193001_1] 30 (0,0)) (by (with_reducible repeat (first|refine kn_ ?_ _|refine kd_ ?_|refine ka_ ?_ _));exact BK192.out) hb);have n3_:=Aside0.mk (below_step (by repeat (first|(with_reducible first|exact HB.out|apply ba_|apply bn_|apply bd_|refine below_set ?_ GE192.out)|exact HB.out)) hb);have n4_:=Aside0.mk (hbox);have n5_:=Aside0.mk ((by rw [hg];exact (below_size (by repeat (first|(with_reducible first|exact HB.out|apply ba_|apply bn_|apply bd_|refine below_set ?_ GE192.out)|exact HB.out))) : w.heap.size ≤ gb203));have n6_:=Aside0.mk ((by rw [hg];exact (below_size (by repeat (first|(with_reducible first|exact HB.out|apply ba_|apply bn_|apply bd_|refine below_set ?_ GE192.out)|exact HB.out))) : w.heap.size ≤ gb203));have n7_:=Aside0.mk ((by rw [hg];exact Nat.ne_of_lt (blk_lt (g:=gb192) (o:=.cells #[.int .i64 x193000_1,.int .i64 x193001_1] 30 (0,0)) (by (with_reducible repeat (first|refine kn_ ?_ _|refine kd_ ?_|refine ka_ ?_ _));exact BK192.out)) : gb192 ≠ gb203));have n8_:=Aside0.mk ((by rw [hg];exact Nat.ne_of_gt (blk_lt (g:=gb192) (o:=.cells #[.int .i64 x193000_1,.int .i64 x193001_1] 30 (0,0)) (by (with_reducible repeat (first|refine kn_ ?_ _|refine kd_ ?_|refine ka_ ?_ _));exact BK192.out)) : gb203 ≠ gb192));clear HO_9;clear HO_144;clear BK192;clear HB;have HO_9:=n0_;have HO_144:=n1_;have BK192:=n2_;have HB:=n3_;have BK203:=n4_;have GW203:=n5_;have GE203:=n6_;have NB192_203:=n7_;have NB203_192:=n8_;clear n0_ n1_ n2_ n3_ n4_ n5_ n6_ n7_ n8_;clear hb hbox hg;have hnb67:=NB203_192.out;have hnc67:=NB192_203.out;have hcz68_0 : w66.cell? ⟨gb203,0,none⟩ = some (.int .i64 0):=(blk_cell BK203.out 0).trans rfl;have hcz68_1 : w66.cell? ⟨gb203,1,none⟩ = some (.int .i64 0):=(blk_cell BK203.out 1).trans rfl;have hfz68_0:=blk_frozen BK203.out 0;have hfz68_1:=blk_frozen BK203.out 1)|((with_reducible refine gate_callee (f:=29) rfl ?_);refine goesL_ (some 151) rfl rfl Try.func29 (by kernel_rfl) rfl #[.agg #[.int .i64 ((rd_T30 x9_1 x146_3).f0),.int .i64 ((rd_T30 x9_1 x146_3).f1)]] rfl (by (try simp only [List.map_toArray,List.map_cons,List.map_nil]);first|done|rfl|(simp only [List.length_drop,List.length_take];rfl)) ?_;(with_reducible refine (convex_near.calls ((rd_T30 x9_1 x146_3).f0) ((rd_T30 x9_1 x146_3).f1) false _ A60.out).mono ?_);rintro e w69 ⟨rfl,hb⟩;refine ⟨_,rfl,?_⟩;have n0_:=Aside0.mk (Kd.R_below (by (with_reducible repeat (first|apply ra_|apply rn_|apply rd_));exact (Kd.R_mono (Kd.R_far (p:=⟨gb203,1,none⟩) (Kd.R_far (p:=⟨gb203,0,none⟩) (Kd.R_mono HO_9.out (fun k_ hk=>(⟨hk,hk.2⟩ : _∧k_ ≠ gb203))) (fun _ hk=>hk.2) (.int .i64 ((rd_T30 x9_1 x146_3).f0))) (fun _ hk=>hk.2) (.int .i64 ((rd_T30 x9_1 x146_3).f1))) (fun _ h_=>h_.1))) hb);have n1_:=Aside0.mk (Kd.R_below (by (with_reducible repeat (first|apply ra_|apply rn_|apply rd_));exact (Kd.R_mono (Kd.R_far (p:=⟨gb203,1,none⟩) (Kd.R_far (p:=⟨gb203,0,none⟩) (Kd.R_mono HO_144.out (fun k_ hk=>(⟨hk,hk.2⟩ : _∧k_ ≠ gb203))) (fun _ hk=>hk.2) (.int .i64 ((rd_T30 x9_1 x146_3).f0))) (fun _ hk=>hk.2) (.int .i64 ((rd_T30 x9_1 x146_3).f1))) (fun _ h_=>h_.1))) hb);have n2_:=Aside0.mk (blk_below (g:=gb192) (o:=.cells #[.int .i64 x193000_1,.int .i64 x193001_1] 30 (0,0)) (by (with_reducible repeat (first|refine kn_ ?_ _|refine kd_ ?_|refine ka_ ?_ _));refine blk_far ?_ NB192_203.out _;(with_reducible repeat (first|refine kn_ ?_ _|refine kd_ ?_|refine ka_ ?_ _));refine blk_far ?_ NB192_203.out _;(with_reducible repeat (first|refine kn_ ?_ _|refine kd_ ?_|refine ka_ ?_ _));exact BK192.out) hb);have n3_:=Aside0.mk (blk_below (g:=gb203) (o:=.cells #[.int .i64 ((rd_T30 x9_1 x146_3).f0),.int .i64 ((rd_T30 x9_1 x146_3).f1)] 30 (0,0)) (by (with_reducible repeat (first|refine kn_ ?_ _|refine kd_ ?_|refine ka_ ?_ _));refine blk_put (cs:=#[.int .i64 ((rd_T30 x9_1 x146_3).f0),.int .i64 0]) ?_ 1 _ rfl;(with_reducible repeat (first|refine kn_ ?_ _|refine kd_ ?_|refine ka_ ?_ _));refine blk_put (cs:=#[.int .i64 0,.int .i64 0]) ?_ 0 _ rfl;(with_reducible repeat (first|refine kn_ ?_ _|refine kd_ ?_|refine ka_ ?_ _));exact BK203.out) hb);have n4_:=Aside0.mk (below_step (by repeat (first|(with_reducible first|exact HB.out|apply ba_|apply bn_|apply bd_|refine below_set ?_ GE192.out|refine below_set ?_ GE203.out)|exact HB.out)) hb);clear HO_9;clear HO_144;clear BK192;clear BK203;clear HB;have HO_9:=n0_;have HO_144:=n1_;have BK192:=n2_;have BK203:=n3_;have HB:=n4_;clear n0_ n1_ n2_ n3_ n4_;(try clear hb);(try clear hb2);(try clear hk);(try clear hi)))
              go_ret2
              exact ⟨_,by first|rfl|(simp [errW_none,errW_some] <;> rfl)|(simp [*,errW_none,errW_some] <;> rfl),by first|exact Kd.R_nil _ _ _ _ _|exact Kd.N_nil _ _ _ _ _|exact Kd.V_nil _ _ _ _ _|exact Kd.Q_nil _ _ _ _ _|exact Kd.S_nil _ _ _ _ _,by repeat (first|(with_reducible first|exact HB.out|apply ba_|apply bn_|apply bd_|refine below_set ?_ GE192.out|refine below_set ?_ GE203.out)|exact HB.out)⟩
             rw [if_neg c59] at H
             exact absurd H (by simp)
            rw [if_neg c58] at H
            exact absurd H (by simp)
           rw [if_neg c57] at H
           have c57b0 : decide (x146_3 < (x9_1.length : Int)) = false:=decide_eq_false c57
           clear c57
           by_cases c70 : (x9_1.length : Int) > 160
           ·
            rw [if_pos c70] at H
            have c70b0 : decide (160 < (x9_1.length : Int)) = true:=decide_eq_true c70
            have c70b1 : decide (160 < x9_1.length) = true:=decide_eq_true (by omega)
            clear c70
            simp only [Option.some.injEq,Prod.mk.injEq] at H
            obtain ⟨rfl,rfl⟩:=H
            go_wp2
            go_ret2
            exact ⟨_,by first|rfl|(simp [errW_none,errW_some] <;> rfl)|(simp [*,errW_none,errW_some] <;> rfl),by first|exact Kd.R_nil _ _ _ _ _|exact Kd.N_nil _ _ _ _ _|exact Kd.V_nil _ _ _ _ _|exact Kd.Q_nil _ _ _ _ _|exact Kd.S_nil _ _ _ _ _,by repeat (first|(with_reducible first|exact HB.out|apply ba_|apply bn_|apply bd_|refine below_set ?_ GE192.out)|exact HB.out)⟩
           rw [if_neg c70] at H
           have c70b0 : decide (160 < (x9_1.length : Int)) = false:=decide_eq_false c70
           have c70b1 : decide (160 < x9_1.length) = false:=decide_eq_false (by omega)
           clear c70
           simp only [Option.some.injEq,Prod.mk.injEq] at H
           obtain ⟨rfl,rfl⟩:=H
           go_wp2
           go_ret2
           exact ⟨_,by first|rfl|(simp [errW_none,errW_some] <;> rfl)|(simp [*,errW_none,errW_some] <;> rfl),by (with_reducible repeat (first|apply ra_|apply rn_|apply rd_));exact Kd.R_mono HO_9.out (fun _ hk=>trivial),by repeat (first|(with_reducible first|exact HB.out|apply ba_|apply bn_|apply bd_|refine below_set ?_ GE192.out)|exact HB.out)⟩
    rw [if_neg c8] at H
    exact absurd H (by simp)
   rw [if_neg c7] at H
   exact absurd H (by simp)
  rw [if_neg c6] at H
  have c6b0 : (t185 == 0) = false:=beq_eq_false_iff_ne.mpr c6
  have c6b1 : (t185 != 0) = true:=bne_iff_ne.mpr c6
  simp only [Option.some.injEq,Prod.mk.injEq] at H
  obtain ⟨rfl,rfl⟩:=H
  go_enter Try.func22,Try.ntmps22
  go_wp2_with (first|((with_reducible refine gate_callee (f:=11) rfl ?_);refine goesL_ (some 22) rfl rfl Try.func11 (by kernel_rfl) rfl #[.slice A0 l0.length c0] rfl (by (try simp only [List.map_toArray,List.map_cons,List.map_nil]);first|done|rfl|(simp only [List.length_drop,List.length_take];rfl)) ?_;(with_reducible refine (convex_Hull.calls k _ _ l0 t180 t181 _ ?side1 ?side2 A3.out).mono ?_);(case side1=>repeat (first|exact HR0.out|(with_reducible refine Kd.C_alloc ?_ _)|(with_reducible refine Kd.C_drewN ?_ _)|(with_reducible refine Kd.C_drew ?_)));(case side2=>exact HC0.out);rintro e w71 ⟨v182,rfl,ho0,hb⟩;refine ⟨_,rfl,?_⟩;have n0_:=Aside0.mk (Kd.R_lower ho0 (below_size (by repeat (first|(with_reducible first|exact HB.out|apply ba_|apply bn_|apply bd_)|exact HB.out))));have n1_:=Aside0.mk (below_step (by repeat (first|(with_reducible first|exact HB.out|apply ba_|apply bn_|apply bd_)|exact HB.out)) hb);clear HB;have HO183:=n0_;have HB:=n1_;clear n0_ n1_;(try clear hb);(try clear hb2);(try clear hk);(try clear hi);(try clear ho0))|((with_reducible refine gate_callee (f:=11) rfl ?_);refine goesL_ (some 30) rfl rfl Try.func11 (by kernel_rfl) rfl #[.slice A1 l1.length c1] rfl (by (try simp only [List.map_toArray,List.map_cons,List.map_nil]);first|done|rfl|(simp only [List.length_drop,List.length_take];rfl)) ?_;(with_reducible refine (convex_Hull.calls k _ _ l1 t184 t185 _ ?side1 ?side2 A5.out).mono ?_);(case side1=>repeat (first|exact (Kd.C_below HR1.out HB.out)|(with_reducible refine Kd.C_alloc ?_ _)|(with_reducible refine Kd.C_drewN ?_ _)|(with_reducible refine Kd.C_drew ?_)));(case side2=>exact HC1.out);rintro e w72 ⟨v186,rfl,ho0,hb⟩;refine ⟨_,rfl,?_⟩;have n0_:=Aside0.mk (Kd.R_elder' (by (with_reducible repeat (first|apply ra_|apply rn_|apply rd_));exact HO183.out) (Kd.R_base ho0) hb);have n1_:=Aside0.mk (Kd.R_lower (Kd.R_new' ho0 (Kd.R_lt (by (with_reducible repeat (first|apply ra_|apply rn_|apply rd_));exact HO183.out))) (below_size (by repeat (first|(with_reducible first|exact HB.out|apply ba_|apply bn_|apply bd_)|exact HB.out))));have n2_:=Aside0.mk (below_step (by repeat (first|(with_reducible first|exact HB.out|apply ba_|apply bn_|apply bd_)|exact HB.out)) hb);clear HO183;clear HB;have HO183:=n0_;have HO187:=n1_;have HB:=n2_;clear n0_ n1_ n2_;(try clear hb);(try clear hb2);(try clear hk);(try clear hi);(try clear ho0)))
  go_ret2
  exact ⟨_,by first|rfl|(simp [errW_none,errW_some] <;> rfl)|(simp [*,errW_none,errW_some] <;> rfl),by first|exact Kd.R_nil _ _ _ _ _|exact Kd.N_nil _ _ _ _ _|exact Kd.V_nil _ _ _ _ _|exact Kd.Q_nil _ _ _ _ _|exact Kd.S_nil _ _ _ _ _,by repeat (first|(with_reducible first|exact HB.out|apply ba_|apply bn_|apply bd_)|exact HB.out)⟩
 rw [if_neg c4] at H
 have c4b0 : (t181 == 0) = false:=beq_eq_false_iff_ne.mpr c4
 have c4b1 : (t181 != 0) = true:=bne_iff_ne.mpr c4
 simp only [Option.some.injEq,Prod.mk.injEq] at H
 obtain ⟨rfl,rfl⟩:=H
 go_enter Try.func22,Try.ntmps22
 go_wp2_with (first|((with_reducible refine gate_callee (f:=11) rfl ?_);refine goesL_ (some 22) rfl rfl Try.func11 (by kernel_rfl) rfl #[.slice A0 l0.length c0] rfl (by (try simp only [List.map_toArray,List.map_cons,List.map_nil]);first|done|rfl|(simp only [List.length_drop,List.length_take];rfl)) ?_;(with_reducible refine (convex_Hull.calls k _ _ l0 t180 t181 _ ?side1 ?side2 A3.out).mono ?_);(case side1=>repeat (first|exact HR0.out|(with_reducible refine Kd.C_alloc ?_ _)|(with_reducible refine Kd.C_drewN ?_ _)|(with_reducible refine Kd.C_drew ?_)));(case side2=>exact HC0.out);rintro e w73 ⟨v182,rfl,ho0,hb⟩;refine ⟨_,rfl,?_⟩;have n0_:=Aside0.mk (Kd.R_lower ho0 (below_size (by repeat (first|(with_reducible first|exact HB.out|apply ba_|apply bn_|apply bd_)|exact HB.out))));have n1_:=Aside0.mk (below_step (by repeat (first|(with_reducible first|exact HB.out|apply ba_|apply bn_|apply bd_)|exact HB.out)) hb);clear HB;have HO183:=n0_;have HB:=n1_;clear n0_ n1_;(try clear hb);(try clear hb2);(try clear hk);(try clear hi);(try clear ho0)))
 go_ret2
 exact ⟨_,by first|rfl|(simp [errW_none,errW_some] <;> rfl)|(simp [*,errW_none,errW_some] <;> rfl),by first|exact Kd.R_nil _ _ _ _ _|exact Kd.N_nil _ _ _ _ _|exact Kd.V_nil _ _ _ _ _|exact Kd.Q_nil _ _ _ _ _|exact Kd.S_nil _ _ _ _ _,by repeat (first|(with_reducible first|exact HB.out|apply ba_|apply bn_|apply bd_)|exact HB.out)⟩

end Go.Proofs.Ytlnigbhimdphoaa.C
