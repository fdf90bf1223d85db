-- PRINTED by print.py (a twelfth state) out of the translation. Not trusted: Lean checks it.
import Derived.Test.YtlnigbhimdphoaaCx0
import Derived.Test.YtlnigbhimdphoaaCx4
import Derived.Test.YtlnigbhimdphoaaCx5
import Derived.Test.YtlnigbhimdphoaaCx6
import Derived.Test.YtlnigbhimdphoaaCx7
import Derived.Test.YtlnigbhimdphoaaCx9
namespace Go.Proofs.Ytlnigbhimdphoaa.C
open Go.RowKit Go.Proofs.YtlnigbhimdphoaaW.PrintWords Go.Proofs.YtlnigbhimdphoaaW.PrintLast Go.Proofs.YtlnigbhimdphoaaW.PrintMore
attribute [local go_sem] max2_int min2_int max_two min_two max_three min_three max_four min_four Go.Proofs.Ytlnigbhimdphoaa.Aid.isSome_setCell   -- for this text's walks alone
set_option linter.unusedVariables false
set_option linter.unusedSimpArgs false

/-! ### garmentlaw14_awake: function 10 -/
mutual
def garmentlaw14_awake.j0 : Nat → List (S30) → List (S30) → List (S30) → List (S30) → Bool → Option (Bool)
 | 0,_,_,_,_,_=>none
 | k + 1,x1,x2,x6,x8,x94=>if x94 = true then (some false) else ((garmentref11_Same.f k x2 (([(⟨0,0⟩ : S30),(⟨4,0⟩ : S30),(⟨2,2⟩ : S30)] : List (S30)))).bind fun t243=>(if t243 = true then ((garmentref11_Same.f k x6 (([(⟨0,0⟩ : S30),(⟨3,0⟩ : S30),(⟨3,1⟩ : S30),(⟨1,3⟩ : S30),(⟨0,3⟩ : S30)] : List (S30)))).bind fun t247=>(if t247 = true then ((garmentref11_Same.f k x8 (([(⟨(-2),0⟩ : S30),(⟨0,(-2)⟩ : S30),(⟨2,(-2)⟩ : S30),(⟨2,0⟩ : S30),(⟨0,2⟩ : S30),(⟨(-2),2⟩ : S30)] : List (S30)))).bind fun t251=>(garmentlaw14_awake.j1 k x1 (!t251))) else (garmentlaw14_awake.j1 k x1 true))) else (garmentlaw14_awake.j1 k x1 true)))
def garmentlaw14_awake.j1 : Nat → List (S30) → Bool → Option (Bool)
 | 0,_,_=>none
 | k + 1,x1,x124=>if x124 = true then (some false) else ((convex_Support.f k x1 1 1).bind fun t252=>(if t252 = 2 then ((convex_Support.f k x1 (-1) (-3)).bind fun t253=>(if t253 = 0 then ((convex_Support.f k x1 5000 0).bind fun t254=>(some (t254 == 2000))) else (some false))) else (some false)))
end
def garmentlaw14_awake.f (k : Nat)  : Option (Bool):=(some (([(⟨0,0⟩ : S30),(⟨2,0⟩ : S30),(⟨0,2⟩ : S30)] : List (S30)) : List (S30))).bind fun y205=>((convex_Hull.f k (([(⟨2,2⟩ : S30),(⟨0,0⟩ : S30),(⟨4,0⟩ : S30),(⟨2,1⟩ : S30),(⟨2,0⟩ : S30),(⟨0,0⟩ : S30)] : List (S30)))).bind fun bt211=>((convex_Hull.f k (([(⟨0,0⟩ : S30),(⟨1,1⟩ : S30),(⟨5,5⟩ : S30)] : List (S30)))).bind fun bt218=>((convex_Sum.f k y205 (([(⟨0,0⟩ : S30),(⟨1,0⟩ : S30),(⟨1,1⟩ : S30),(⟨0,1⟩ : S30)] : List (S30)))).bind fun bt225=>((convex_Negate.f k y205).bind fun t229=>((convex_Sum.f k y205 t229).bind fun bt232=>((convex_Inside.f k bt211.1 2 1).bind fun bt236=>((convex_Inside.f k bt211.1 1 1).bind fun bt238=>(if bt211.2 = 0 then (if bt218.2 = 11 then (if bt225.2 = 0 then (if bt232.2 = 0 then (if bt236.2 = 0 then (if bt238.2 = 0 then (if bt236.1 = true then (garmentlaw14_awake.j0 k y205 bt211.1 bt225.1 bt232.1 bt238.1) else (garmentlaw14_awake.j0 k y205 bt211.1 bt225.1 bt232.1 true)) else (garmentlaw14_awake.j0 k y205 bt211.1 bt225.1 bt232.1 true)) else (garmentlaw14_awake.j0 k y205 bt211.1 bt225.1 bt232.1 true)) else (garmentlaw14_awake.j0 k y205 bt211.1 bt225.1 bt232.1 true)) else (garmentlaw14_awake.j0 k y205 bt211.1 bt225.1 bt232.1 true)) else (garmentlaw14_awake.j0 k y205 bt211.1 bt225.1 bt232.1 true)) else (garmentlaw14_awake.j0 k y205 bt211.1 bt225.1 bt232.1 true)))))))))
theorem garmentlaw14_awake.mono_l : ∀ k,(∀ y0 y1 y2 y3 y4,LeO (garmentlaw14_awake.j0 k y0 y1 y2 y3 y4) (garmentlaw14_awake.j0 (k + 1) y0 y1 y2 y3 y4))∧(∀ y0 y1,LeO (garmentlaw14_awake.j1 k y0 y1) (garmentlaw14_awake.j1 (k + 1) y0 y1))
 | 0=>⟨fun _ _ _ _ _ r h=>by simp [garmentlaw14_awake.j0] at h,fun _ _ r h=>by simp [garmentlaw14_awake.j1] at h⟩
 | k + 1=>by
  obtain ⟨ih0,ih1⟩:=garmentlaw14_awake.mono_l k
  refine ⟨?_,?_⟩
  ·
   intro y0 y1 y2 y3 y4
   unfold garmentlaw14_awake.j0
   repeat' first
   | (with_reducible exact ih0 _ _ _ _ _)
   | (with_reducible exact ih1 _ _)
   | (with_reducible exact convex_Hull.mono _ _)
   | (with_reducible exact convex_Inside.mono _ _ _ _)
   | (with_reducible exact convex_Negate.mono _ _)
   | (with_reducible exact convex_Sum.mono _ _ _)
   | (with_reducible exact convex_Support.mono _ _ _ _)
   | (with_reducible exact garmentref11_Same.mono _ _ _)
   | (with_reducible exact LeO.refl _)
   | (with_reducible exact LeO.none _)
   | (with_reducible refine LeO.ite ?_ ?_)
   | (with_reducible refine LeO.bind ?_ (fun _=>?_))
   | exact ih0 _ _ _ _ _
   | exact ih1 _ _
   | exact convex_Hull.mono _ _
   | exact convex_Inside.mono _ _ _ _
   | exact convex_Negate.mono _ _
   | exact convex_Sum.mono _ _ _
   | exact convex_Support.mono _ _ _ _
   | exact garmentref11_Same.mono _ _ _
   | exact LeO.none _
   | refine LeO.ite ?_ ?_
   | refine LeO.bind ?_ (fun _=>?_)
  intro y0 y1
  unfold garmentlaw14_awake.j1
  repeat' first
  | (with_reducible exact ih0 _ _ _ _ _)
  | (with_reducible exact ih1 _ _)
  | (with_reducible exact convex_Hull.mono _ _)
  | (with_reducible exact convex_Inside.mono _ _ _ _)
  | (with_reducible exact convex_Negate.mono _ _)
  | (with_reducible exact convex_Sum.mono _ _ _)
  | (with_reducible exact convex_Support.mono _ _ _ _)
  | (with_reducible exact garmentref11_Same.mono _ _ _)
  | (with_reducible exact LeO.refl _)
  | (with_reducible exact LeO.none _)
  | (with_reducible refine LeO.ite ?_ ?_)
  | (with_reducible refine LeO.bind ?_ (fun _=>?_))
  | exact ih0 _ _ _ _ _
  | exact ih1 _ _
  | exact convex_Hull.mono _ _
  | exact convex_Inside.mono _ _ _ _
  | exact convex_Negate.mono _ _
  | exact convex_Sum.mono _ _ _
  | exact convex_Support.mono _ _ _ _
  | exact garmentref11_Same.mono _ _ _
  | exact LeO.none _
  | refine LeO.ite ?_ ?_
  | refine LeO.bind ?_ (fun _=>?_)
theorem garmentlaw14_awake.mono : ∀ k,LeO (garmentlaw14_awake.f k ) (garmentlaw14_awake.f (k + 1) ):=by
 intro  k
 obtain ⟨ih0,ih1⟩:=garmentlaw14_awake.mono_l k
 unfold garmentlaw14_awake.f
 repeat' first
   | (with_reducible exact ih0 _ _ _ _ _)
   | (with_reducible exact ih1 _ _)
   | (with_reducible exact convex_Hull.mono _ _)
   | (with_reducible exact convex_Inside.mono _ _ _ _)
   | (with_reducible exact convex_Negate.mono _ _)
   | (with_reducible exact convex_Sum.mono _ _ _)
   | (with_reducible exact convex_Support.mono _ _ _ _)
   | (with_reducible exact garmentref11_Same.mono _ _ _)
   | (with_reducible exact LeO.refl _)
   | (with_reducible exact LeO.none _)
   | (with_reducible refine LeO.ite ?_ ?_)
   | (with_reducible refine LeO.bind ?_ (fun _=>?_))
   | exact ih0 _ _ _ _ _
   | exact ih1 _ _
   | exact convex_Hull.mono _ _
   | exact convex_Inside.mono _ _ _ _
   | exact convex_Negate.mono _ _
   | exact convex_Sum.mono _ _ _
   | exact convex_Support.mono _ _ _ _
   | exact garmentref11_Same.mono _ _ _
   | exact LeO.none _
   | refine LeO.ite ?_ ?_
   | refine LeO.bind ?_ (fun _=>?_)
set_option maxHeartbeats 8000000 in
set_option maxRecDepth 100000 in
theorem garmentlaw14_awake.calls (k : Nat)  (r : Bool) (w : World) (h : garmentlaw14_awake.f k  = some r) :
  Calls Try.prog 10 #[] w fun e w'=>e = .returned (.bool r)∧Below w.heap.size w w':=by
 have hu30:=Try.underlying30
 have HB:=Aside0.mk (Below.refl w.heap.size w)
 have H : ((some (([(⟨0,0⟩ : S30),(⟨2,0⟩ : S30),(⟨0,2⟩ : S30)] : List (S30)) : List (S30))).bind fun y205=>((convex_Hull.f k (([(⟨2,2⟩ : S30),(⟨0,0⟩ : S30),(⟨4,0⟩ : S30),(⟨2,1⟩ : S30),(⟨2,0⟩ : S30),(⟨0,0⟩ : S30)] : List (S30)))).bind fun bt211=>((convex_Hull.f k (([(⟨0,0⟩ : S30),(⟨1,1⟩ : S30),(⟨5,5⟩ : S30)] : List (S30)))).bind fun bt218=>((convex_Sum.f k y205 (([(⟨0,0⟩ : S30),(⟨1,0⟩ : S30),(⟨1,1⟩ : S30),(⟨0,1⟩ : S30)] : List (S30)))).bind fun bt225=>((convex_Negate.f k y205).bind fun t229=>((convex_Sum.f k y205 t229).bind fun bt232=>((convex_Inside.f k bt211.1 2 1).bind fun bt236=>((convex_Inside.f k bt211.1 1 1).bind fun bt238=>(if bt211.2 = 0 then (if bt218.2 = 11 then (if bt225.2 = 0 then (if bt232.2 = 0 then (if bt236.2 = 0 then (if bt238.2 = 0 then (if bt236.1 = true then (garmentlaw14_awake.j0 k y205 bt211.1 bt225.1 bt232.1 bt238.1) else (garmentlaw14_awake.j0 k y205 bt211.1 bt225.1 bt232.1 true)) else (garmentlaw14_awake.j0 k y205 bt211.1 bt225.1 bt232.1 true)) else (garmentlaw14_awake.j0 k y205 bt211.1 bt225.1 bt232.1 true)) else (garmentlaw14_awake.j0 k y205 bt211.1 bt225.1 bt232.1 true)) else (garmentlaw14_awake.j0 k y205 bt211.1 bt225.1 bt232.1 true)) else (garmentlaw14_awake.j0 k y205 bt211.1 bt225.1 bt232.1 true)) else (garmentlaw14_awake.j0 k y205 bt211.1 bt225.1 bt232.1 true)))))))))) = some r:=h
 clear h
 obtain ⟨y205,hy205⟩ : ∃ y_ : List (S30),y_ = (([(⟨0,0⟩ : S30),(⟨2,0⟩ : S30),(⟨0,2⟩ : S30)] : List (S30))):=⟨_,rfl⟩
 replace H : ((convex_Hull.f k (([(⟨2,2⟩ : S30),(⟨0,0⟩ : S30),(⟨4,0⟩ : S30),(⟨2,1⟩ : S30),(⟨2,0⟩ : S30),(⟨0,0⟩ : S30)] : List (S30)))).bind fun bt211=>((convex_Hull.f k (([(⟨0,0⟩ : S30),(⟨1,1⟩ : S30),(⟨5,5⟩ : S30)] : List (S30)))).bind fun bt218=>((convex_Sum.f k y205 (([(⟨0,0⟩ : S30),(⟨1,0⟩ : S30),(⟨1,1⟩ : S30),(⟨0,1⟩ : S30)] : List (S30)))).bind fun bt225=>((convex_Negate.f k y205).bind fun t229=>((convex_Sum.f k y205 t229).bind fun bt232=>((convex_Inside.f k bt211.1 2 1).bind fun bt236=>((convex_Inside.f k bt211.1 1 1).bind fun bt238=>(if bt211.2 = 0 then (if bt218.2 = 11 then (if bt225.2 = 0 then (if bt232.2 = 0 then (if bt236.2 = 0 then (if bt238.2 = 0 then (if bt236.1 = true then (garmentlaw14_awake.j0 k y205 bt211.1 bt225.1 bt232.1 bt238.1) else (garmentlaw14_awake.j0 k y205 bt211.1 bt225.1 bt232.1 true)) else (garmentlaw14_awake.j0 k y205 bt211.1 bt225.1 bt232.1 true)) else (garmentlaw14_awake.j0 k y205 bt211.1 bt225.1 bt232.1 true)) else (garmentlaw14_awake.j0 k y205 bt211.1 bt225.1 bt232.1 true)) else (garmentlaw14_awake.j0 k y205 bt211.1 bt225.1 bt232.1 true)) else (garmentlaw14_awake.j0 k y205 bt211.1 bt225.1 bt232.1 true)) else (garmentlaw14_awake.j0 k y205 bt211.1 bt225.1 bt232.1 true))))))))) = some r:=by first|(rw [hy205];with_reducible exact H)|(have H2_:=(Option.bind_some _ _).symm.trans H;rw [hy205];with_reducible exact H2_)|(have H2_:=(Option.bind_some _ _).symm.trans H;with_reducible exact H2_)|with_reducible exact H|(rw [hy205];exact H)|exact H
 have Ny205:=Aside0.mk hy205
 clear hy205
 obtain ⟨y208,hy208⟩ : ∃ y_ : List (S30),y_ = (([(⟨2,2⟩ : S30),(⟨0,0⟩ : S30),(⟨4,0⟩ : S30),(⟨2,1⟩ : S30),(⟨2,0⟩ : S30),(⟨0,0⟩ : S30)] : List (S30))):=⟨_,rfl⟩
 replace H : ((convex_Hull.f k y208).bind fun bt211=>((convex_Hull.f k (([(⟨0,0⟩ : S30),(⟨1,1⟩ : S30),(⟨5,5⟩ : S30)] : List (S30)))).bind fun bt218=>((convex_Sum.f k y205 (([(⟨0,0⟩ : S30),(⟨1,0⟩ : S30),(⟨1,1⟩ : S30),(⟨0,1⟩ : S30)] : List (S30)))).bind fun bt225=>((convex_Negate.f k y205).bind fun t229=>((convex_Sum.f k y205 t229).bind fun bt232=>((convex_Inside.f k bt211.1 2 1).bind fun bt236=>((convex_Inside.f k bt211.1 1 1).bind fun bt238=>(if bt211.2 = 0 then (if bt218.2 = 11 then (if bt225.2 = 0 then (if bt232.2 = 0 then (if bt236.2 = 0 then (if bt238.2 = 0 then (if bt236.1 = true then (garmentlaw14_awake.j0 k y205 bt211.1 bt225.1 bt232.1 bt238.1) else (garmentlaw14_awake.j0 k y205 bt211.1 bt225.1 bt232.1 true)) else (garmentlaw14_awake.j0 k y205 bt211.1 bt225.1 bt232.1 true)) else (garmentlaw14_awake.j0 k y205 bt211.1 bt225.1 bt232.1 true)) else (garmentlaw14_awake.j0 k y205 bt211.1 bt225.1 bt232.1 true)) else (garmentlaw14_awake.j0 k y205 bt211.1 bt225.1 bt232.1 true)) else (garmentlaw14_awake.j0 k y205 bt211.1 bt225.1 bt232.1 true)) else (garmentlaw14_awake.j0 k y205 bt211.1 bt225.1 bt232.1 true))))))))) = some r:=by first|(rw [hy208];with_reducible exact H)|(have H2_:=(Option.bind_some _ _).symm.trans H;rw [hy208];with_reducible exact H2_)|(have H2_:=(Option.bind_some _ _).symm.trans H;with_reducible exact H2_)|with_reducible exact H|(rw [hy208];exact H)|exact H
 have Ny208:=Aside0.mk hy208
 clear hy208
 replace H:=Option.bind_eq_some_iff.mp H
 obtain ⟨⟨t211,t212⟩,A10,H⟩:=H
 replace H : ((convex_Hull.f k (([(⟨0,0⟩ : S30),(⟨1,1⟩ : S30),(⟨5,5⟩ : S30)] : List (S30)))).bind fun bt218=>((convex_Sum.f k y205 (([(⟨0,0⟩ : S30),(⟨1,0⟩ : S30),(⟨1,1⟩ : S30),(⟨0,1⟩ : S30)] : List (S30)))).bind fun bt225=>((convex_Negate.f k y205).bind fun t229=>((convex_Sum.f k y205 t229).bind fun bt232=>((convex_Inside.f k t211 2 1).bind fun bt236=>((convex_Inside.f k t211 1 1).bind fun bt238=>(if t212 = 0 then (if bt218.2 = 11 then (if bt225.2 = 0 then (if bt232.2 = 0 then (if bt236.2 = 0 then (if bt238.2 = 0 then (if bt236.1 = true then (garmentlaw14_awake.j0 k y205 t211 bt225.1 bt232.1 bt238.1) else (garmentlaw14_awake.j0 k y205 t211 bt225.1 bt232.1 true)) else (garmentlaw14_awake.j0 k y205 t211 bt225.1 bt232.1 true)) else (garmentlaw14_awake.j0 k y205 t211 bt225.1 bt232.1 true)) else (garmentlaw14_awake.j0 k y205 t211 bt225.1 bt232.1 true)) else (garmentlaw14_awake.j0 k y205 t211 bt225.1 bt232.1 true)) else (garmentlaw14_awake.j0 k y205 t211 bt225.1 bt232.1 true)) else (garmentlaw14_awake.j0 k y205 t211 bt225.1 bt232.1 true)))))))) = some r:=H
 have A1:=Aside0.mk A10
 clear A10
 obtain ⟨y215,hy215⟩ : ∃ y_ : List (S30),y_ = (([(⟨0,0⟩ : S30),(⟨1,1⟩ : S30),(⟨5,5⟩ : S30)] : List (S30))):=⟨_,rfl⟩
 replace H : ((convex_Hull.f k y215).bind fun bt218=>((convex_Sum.f k y205 (([(⟨0,0⟩ : S30),(⟨1,0⟩ : S30),(⟨1,1⟩ : S30),(⟨0,1⟩ : S30)] : List (S30)))).bind fun bt225=>((convex_Negate.f k y205).bind fun t229=>((convex_Sum.f k y205 t229).bind fun bt232=>((convex_Inside.f k t211 2 1).bind fun bt236=>((convex_Inside.f k t211 1 1).bind fun bt238=>(if t212 = 0 then (if bt218.2 = 11 then (if bt225.2 = 0 then (if bt232.2 = 0 then (if bt236.2 = 0 then (if bt238.2 = 0 then (if bt236.1 = true then (garmentlaw14_awake.j0 k y205 t211 bt225.1 bt232.1 bt238.1) else (garmentlaw14_awake.j0 k y205 t211 bt225.1 bt232.1 true)) else (garmentlaw14_awake.j0 k y205 t211 bt225.1 bt232.1 true)) else (garmentlaw14_awake.j0 k y205 t211 bt225.1 bt232.1 true)) else (garmentlaw14_awake.j0 k y205 t211 bt225.1 bt232.1 true)) else (garmentlaw14_awake.j0 k y205 t211 bt225.1 bt232.1 true)) else (garmentlaw14_awake.j0 k y205 t211 bt225.1 bt232.1 true)) else (garmentlaw14_awake.j0 k y205 t211 bt225.1 bt232.1 true)))))))) = some r:=by first|(rw [hy215];with_reducible exact H)|(have H2_:=(Option.bind_some _ _).symm.trans H;rw [hy215];with_reducible exact H2_)|(have H2_:=(Option.bind_some _ _).symm.trans H;with_reducible exact H2_)|with_reducible exact H|(rw [hy215];exact H)|exact H
 have Ny215:=Aside0.mk hy215
 clear hy215
 replace H:=Option.bind_eq_some_iff.mp H
 obtain ⟨⟨t218,t219⟩,A20,H⟩:=H
 replace H : ((convex_Sum.f k y205 (([(⟨0,0⟩ : S30),(⟨1,0⟩ : S30),(⟨1,1⟩ : S30),(⟨0,1⟩ : S30)] : List (S30)))).bind fun bt225=>((convex_Negate.f k y205).bind fun t229=>((convex_Sum.f k y205 t229).bind fun bt232=>((convex_Inside.f k t211 2 1).bind fun bt236=>((convex_Inside.f k t211 1 1).bind fun bt238=>(if t212 = 0 then (if t219 = 11 then (if bt225.2 = 0 then (if bt232.2 = 0 then (if bt236.2 = 0 then (if bt238.2 = 0 then (if bt236.1 = true then (garmentlaw14_awake.j0 k y205 t211 bt225.1 bt232.1 bt238.1) else (garmentlaw14_awake.j0 k y205 t211 bt225.1 bt232.1 true)) else (garmentlaw14_awake.j0 k y205 t211 bt225.1 bt232.1 true)) else (garmentlaw14_awake.j0 k y205 t211 bt225.1 bt232.1 true)) else (garmentlaw14_awake.j0 k y205 t211 bt225.1 bt232.1 true)) else (garmentlaw14_awake.j0 k y205 t211 bt225.1 bt232.1 true)) else (garmentlaw14_awake.j0 k y205 t211 bt225.1 bt232.1 true)) else (garmentlaw14_awake.j0 k y205 t211 bt225.1 bt232.1 true))))))) = some r:=H
 have A2:=Aside0.mk A20
 clear A20
 obtain ⟨y222,hy222⟩ : ∃ y_ : List (S30),y_ = (([(⟨0,0⟩ : S30),(⟨1,0⟩ : S30),(⟨1,1⟩ : S30),(⟨0,1⟩ : S30)] : List (S30))):=⟨_,rfl⟩
 replace H : ((convex_Sum.f k y205 y222).bind fun bt225=>((convex_Negate.f k y205).bind fun t229=>((convex_Sum.f k y205 t229).bind fun bt232=>((convex_Inside.f k t211 2 1).bind fun bt236=>((convex_Inside.f k t211 1 1).bind fun bt238=>(if t212 = 0 then (if t219 = 11 then (if bt225.2 = 0 then (if bt232.2 = 0 then (if bt236.2 = 0 then (if bt238.2 = 0 then (if bt236.1 = true then (garmentlaw14_awake.j0 k y205 t211 bt225.1 bt232.1 bt238.1) else (garmentlaw14_awake.j0 k y205 t211 bt225.1 bt232.1 true)) else (garmentlaw14_awake.j0 k y205 t211 bt225.1 bt232.1 true)) else (garmentlaw14_awake.j0 k y205 t211 bt225.1 bt232.1 true)) else (garmentlaw14_awake.j0 k y205 t211 bt225.1 bt232.1 true)) else (garmentlaw14_awake.j0 k y205 t211 bt225.1 bt232.1 true)) else (garmentlaw14_awake.j0 k y205 t211 bt225.1 bt232.1 true)) else (garmentlaw14_awake.j0 k y205 t211 bt225.1 bt232.1 true))))))) = some r:=by first|(rw [hy222];with_reducible exact H)|(have H2_:=(Option.bind_some _ _).symm.trans H;rw [hy222];with_reducible exact H2_)|(have H2_:=(Option.bind_some _ _).symm.trans H;with_reducible exact H2_)|with_reducible exact H|(rw [hy222];exact H)|exact H
 have Ny222:=Aside0.mk hy222
 clear hy222
 replace H:=Option.bind_eq_some_iff.mp H
 obtain ⟨⟨t225,t226⟩,A30,H⟩:=H
 replace H : ((convex_Negate.f k y205).bind fun t229=>((convex_Sum.f k y205 t229).bind fun bt232=>((convex_Inside.f k t211 2 1).bind fun bt236=>((convex_Inside.f k t211 1 1).bind fun bt238=>(if t212 = 0 then (if t219 = 11 then (if t226 = 0 then (if bt232.2 = 0 then (if bt236.2 = 0 then (if bt238.2 = 0 then (if bt236.1 = true then (garmentlaw14_awake.j0 k y205 t211 t225 bt232.1 bt238.1) else (garmentlaw14_awake.j0 k y205 t211 t225 bt232.1 true)) else (garmentlaw14_awake.j0 k y205 t211 t225 bt232.1 true)) else (garmentlaw14_awake.j0 k y205 t211 t225 bt232.1 true)) else (garmentlaw14_awake.j0 k y205 t211 t225 bt232.1 true)) else (garmentlaw14_awake.j0 k y205 t211 t225 bt232.1 true)) else (garmentlaw14_awake.j0 k y205 t211 t225 bt232.1 true)) else (garmentlaw14_awake.j0 k y205 t211 t225 bt232.1 true)))))) = some r:=H
 have A3:=Aside0.mk A30
 clear A30
 replace H:=Option.bind_eq_some_iff.mp H
 obtain ⟨t229,A40,H⟩:=H
 replace H : ((convex_Sum.f k y205 t229).bind fun bt232=>((convex_Inside.f k t211 2 1).bind fun bt236=>((convex_Inside.f k t211 1 1).bind fun bt238=>(if t212 = 0 then (if t219 = 11 then (if t226 = 0 then (if bt232.2 = 0 then (if bt236.2 = 0 then (if bt238.2 = 0 then (if bt236.1 = true then (garmentlaw14_awake.j0 k y205 t211 t225 bt232.1 bt238.1) else (garmentlaw14_awake.j0 k y205 t211 t225 bt232.1 true)) else (garmentlaw14_awake.j0 k y205 t211 t225 bt232.1 true)) else (garmentlaw14_awake.j0 k y205 t211 t225 bt232.1 true)) else (garmentlaw14_awake.j0 k y205 t211 t225 bt232.1 true)) else (garmentlaw14_awake.j0 k y205 t211 t225 bt232.1 true)) else (garmentlaw14_awake.j0 k y205 t211 t225 bt232.1 true)) else (garmentlaw14_awake.j0 k y205 t211 t225 bt232.1 true))))) = some r:=H
 have A4:=Aside0.mk A40
 clear A40
 replace H:=Option.bind_eq_some_iff.mp H
 obtain ⟨⟨t232,t233⟩,A50,H⟩:=H
 replace H : ((convex_Inside.f k t211 2 1).bind fun bt236=>((convex_Inside.f k t211 1 1).bind fun bt238=>(if t212 = 0 then (if t219 = 11 then (if t226 = 0 then (if t233 = 0 then (if bt236.2 = 0 then (if bt238.2 = 0 then (if bt236.1 = true then (garmentlaw14_awake.j0 k y205 t211 t225 t232 bt238.1) else (garmentlaw14_awake.j0 k y205 t211 t225 t232 true)) else (garmentlaw14_awake.j0 k y205 t211 t225 t232 true)) else (garmentlaw14_awake.j0 k y205 t211 t225 t232 true)) else (garmentlaw14_awake.j0 k y205 t211 t225 t232 true)) else (garmentlaw14_awake.j0 k y205 t211 t225 t232 true)) else (garmentlaw14_awake.j0 k y205 t211 t225 t232 true)) else (garmentlaw14_awake.j0 k y205 t211 t225 t232 true)))) = some r:=H
 have A5:=Aside0.mk A50
 clear A50
 replace H:=Option.bind_eq_some_iff.mp H
 obtain ⟨⟨t236,t237⟩,A60,H⟩:=H
 replace H : ((convex_Inside.f k t211 1 1).bind fun bt238=>(if t212 = 0 then (if t219 = 11 then (if t226 = 0 then (if t233 = 0 then (if t237 = 0 then (if bt238.2 = 0 then (if t236 = true then (garmentlaw14_awake.j0 k y205 t211 t225 t232 bt238.1) else (garmentlaw14_awake.j0 k y205 t211 t225 t232 true)) else (garmentlaw14_awake.j0 k y205 t211 t225 t232 true)) else (garmentlaw14_awake.j0 k y205 t211 t225 t232 true)) else (garmentlaw14_awake.j0 k y205 t211 t225 t232 true)) else (garmentlaw14_awake.j0 k y205 t211 t225 t232 true)) else (garmentlaw14_awake.j0 k y205 t211 t225 t232 true)) else (garmentlaw14_awake.j0 k y205 t211 t225 t232 true))) = some r:=H
 have A6:=Aside0.mk A60
 clear A60
 replace H:=Option.bind_eq_some_iff.mp H
 obtain ⟨⟨t238,t239⟩,A70,H⟩:=H
 replace H : (if t212 = 0 then (if t219 = 11 then (if t226 = 0 then (if t233 = 0 then (if t237 = 0 then (if t239 = 0 then (if t236 = true then (garmentlaw14_awake.j0 k y205 t211 t225 t232 t238) else (garmentlaw14_awake.j0 k y205 t211 t225 t232 true)) else (garmentlaw14_awake.j0 k y205 t211 t225 t232 true)) else (garmentlaw14_awake.j0 k y205 t211 t225 t232 true)) else (garmentlaw14_awake.j0 k y205 t211 t225 t232 true)) else (garmentlaw14_awake.j0 k y205 t211 t225 t232 true)) else (garmentlaw14_awake.j0 k y205 t211 t225 t232 true)) else (garmentlaw14_awake.j0 k y205 t211 t225 t232 true)) = some r:=H
 have A7:=Aside0.mk A70
 clear A70
 have HC8:=Aside0.mk H
 clear H
 go_enter Try.func10,Try.ntmps10
 go_upto_region 8 with (first|((with_reducible refine gate_dst (N:=17) rfl ?_);(try (refine gate_guard (by rfl) ?_;dsimp only));refine Kd.R_lit k30 _ 30 ?hg (N:=17) ?hd (xs:=([(⟨0,0⟩ : S30),(⟨2,0⟩ : S30),(⟨0,2⟩ : S30)] : List (S30))) (inner:=[.int .i64 0,.int .i64 0,.int .i64 2,.int .i64 0,.int .i64 0,.int .i64 2]) (ok:=fun _=>True) (okp:=fun _=>True) ?hr ?hp (fun _ hk=>hk) trivial (Below.refl _ _) (Nat.le_refl _) (by simp) ?_;(case hd=>rfl);(case hg=>rfl);(case hr=>first|(go_simp;done)|(go_simp;rfl));(case hp=>exact (Reps.c2 (show Kd.M k30 _ _ _ (⟨0,0⟩ : S30) [.int .i64 0,.int .i64 0] from (k30_mkM _ _ _ (⟨0,0⟩ : S30) )) (Reps.c2 (show Kd.M k30 _ _ _ (⟨2,0⟩ : S30) [.int .i64 2,.int .i64 0] from (k30_mkM _ _ _ (⟨2,0⟩ : S30) )) (Reps.c2 (show Kd.M k30 _ _ _ (⟨0,2⟩ : S30) [.int .i64 0,.int .i64 2] from (k30_mkM _ _ _ (⟨0,2⟩ : S30) )) (Reps.none _ _)))));intro v206 w9 ho10 hb hg_ hnew_;clear hg_ hnew_;(first|rw [← Ny205.out] at ho10|(simp only [Int.reduceToNat] at ho10;rw [← Ny205.out] at ho10));have n0_:=Aside0.mk (Kd.R_lower ho10 (below_size (by repeat (first|(with_reducible first|exact HB.out|apply ba_|apply bn_|apply bd_)|exact HB.out))));have n1_:=Aside0.mk (below_step (by repeat (first|(with_reducible first|exact HB.out|apply ba_|apply bn_|apply bd_)|exact HB.out)) hb);clear HB;have HO207:=n0_;have HB:=n1_;clear n0_ n1_;clear hb ho10)|((with_reducible refine gate_dst (N:=25) rfl ?_);(try (refine gate_guard (by rfl) ?_;dsimp only));refine Kd.R_lit k30 _ 30 ?hg (N:=25) ?hd (xs:=([(⟨2,2⟩ : S30),(⟨0,0⟩ : S30),(⟨4,0⟩ : S30),(⟨2,1⟩ : S30),(⟨2,0⟩ : S30),(⟨0,0⟩ : S30)] : List (S30))) (inner:=[.int .i64 2,.int .i64 2,.int .i64 0,.int .i64 0,.int .i64 4,.int .i64 0,.int .i64 2,.int .i64 1,.int .i64 2,.int .i64 0,.int .i64 0,.int .i64 0]) (ok:=fun _=>True) (okp:=fun _=>True) ?hr ?hp (fun _ hk=>hk) trivial (Below.refl _ _) (Nat.le_refl _) (by simp) ?_;(case hd=>rfl);(case hg=>rfl);(case hr=>first|(go_simp;done)|(go_simp;rfl));(case hp=>exact (Reps.c2 (show Kd.M k30 _ _ _ (⟨2,2⟩ : S30) [.int .i64 2,.int .i64 2] from (k30_mkM _ _ _ (⟨2,2⟩ : S30) )) (Reps.c2 (show Kd.M k30 _ _ _ (⟨0,0⟩ : S30) [.int .i64 0,.int .i64 0] from (k30_mkM _ _ _ (⟨0,0⟩ : S30) )) (Reps.c2 (show Kd.M k30 _ _ _ (⟨4,0⟩ : S30) [.int .i64 4,.int .i64 0] from (k30_mkM _ _ _ (⟨4,0⟩ : S30) )) (Reps.c2 (show Kd.M k30 _ _ _ (⟨2,1⟩ : S30) [.int .i64 2,.int .i64 1] from (k30_mkM _ _ _ (⟨2,1⟩ : S30) )) (Reps.c2 (show Kd.M k30 _ _ _ (⟨2,0⟩ : S30) [.int .i64 2,.int .i64 0] from (k30_mkM _ _ _ (⟨2,0⟩ : S30) )) (Reps.c2 (show Kd.M k30 _ _ _ (⟨0,0⟩ : S30) [.int .i64 0,.int .i64 0] from (k30_mkM _ _ _ (⟨0,0⟩ : S30) )) (Reps.none _ _))))))));intro v209 w11 ho12 hb hg_ hnew_;clear hg_ hnew_;(first|rw [← Ny208.out] at ho12|(simp only [Int.reduceToNat] at ho12;rw [← Ny208.out] at ho12));have n0_:=Aside0.mk (Kd.R_elder' (by (with_reducible repeat (first|apply ra_|apply rn_|apply rd_));exact HO207.out) (Kd.R_base ho12) hb);have n1_:=Aside0.mk (Kd.R_lower (Kd.R_new' ho12 (Kd.R_lt (by (with_reducible repeat (first|apply ra_|apply rn_|apply rd_));exact HO207.out))) (below_size (by repeat (first|(with_reducible first|exact HB.out|apply ba_|apply bn_|apply bd_)|exact HB.out))));have n2_:=Aside0.mk (below_step (by repeat (first|(with_reducible first|exact HB.out|apply ba_|apply bn_|apply bd_)|exact HB.out)) hb);clear HO207;clear HB;have HO207:=n0_;have HO210:=n1_;have HB:=n2_;clear n0_ n1_ n2_;clear hb ho12;obtain ⟨Ao13,co13,eo13⟩:=Kd.R_slice HO210.out;subst eo13)|((with_reducible refine gate_callee (f:=11) rfl ?_);refine goesL_ (some 26) rfl rfl Try.func11 (by kernel_rfl) rfl #[.slice Ao13 y208.length co13] rfl (by (try simp only [List.map_toArray,List.map_cons,List.map_nil]);first|done|rfl|(simp only [List.length_drop,List.length_take];rfl)) ?_;(with_reducible refine (convex_Hull.calls k _ _ y208 t211 t212 _ ?side1 ?side2 A1.out).mono ?_);(case side1=>repeat (first|exact (Kd.R_reads' HO210.out).2.2|(with_reducible refine Kd.C_alloc ?_ _)|(with_reducible refine Kd.C_drewN ?_ _)|(with_reducible refine Kd.C_drew ?_)));(case side2=>exact (Kd.R_reads' HO210.out).2.1);rintro e w14 ⟨v213,rfl,ho0,hb⟩;refine ⟨_,rfl,?_⟩;have n0_:=Aside0.mk (Kd.R_elder' (by (with_reducible repeat (first|apply ra_|apply rn_|apply rd_));exact HO207.out) (Kd.R_base ho0) hb);have n1_:=Aside0.mk (Kd.R_elder' (by (with_reducible repeat (first|apply ra_|apply rn_|apply rd_));exact HO210.out) (Kd.R_base ho0) hb);have n2_:=Aside0.mk (Kd.R_lower (Kd.R_new' (Kd.R_new' ho0 (Kd.R_lt (by (with_reducible repeat (first|apply ra_|apply rn_|apply rd_));exact HO207.out))) (Kd.R_lt (by (with_reducible repeat (first|apply ra_|apply rn_|apply rd_));exact HO210.out))) (below_size (by repeat (first|(with_reducible first|exact HB.out|apply ba_|apply bn_|apply bd_)|exact HB.out))));have n3_:=Aside0.mk (below_step (by repeat (first|(with_reducible first|exact HB.out|apply ba_|apply bn_|apply bd_)|exact HB.out)) hb);clear HO207;clear HO210;clear HB;have HO207:=n0_;have HO210:=n1_;have HO214:=n2_;have HB:=n3_;clear n0_ n1_ n2_ n3_;(try clear hb);(try clear hb2);(try clear hk);(try clear hi);(try clear ho0))|((with_reducible refine gate_dst (N:=33) rfl ?_);(try (refine gate_guard (by rfl) ?_;dsimp only));refine Kd.R_lit k30 _ 30 ?hg (N:=33) ?hd (xs:=([(⟨0,0⟩ : S30),(⟨1,1⟩ : S30),(⟨5,5⟩ : S30)] : List (S30))) (inner:=[.int .i64 0,.int .i64 0,.int .i64 1,.int .i64 1,.int .i64 5,.int .i64 5]) (ok:=fun _=>True) (okp:=fun _=>True) ?hr ?hp (fun _ hk=>hk) trivial (Below.refl _ _) (Nat.le_refl _) (by simp) ?_;(case hd=>rfl);(case hg=>rfl);(case hr=>first|(go_simp;done)|(go_simp;rfl));(case hp=>exact (Reps.c2 (show Kd.M k30 _ _ _ (⟨0,0⟩ : S30) [.int .i64 0,.int .i64 0] from (k30_mkM _ _ _ (⟨0,0⟩ : S30) )) (Reps.c2 (show Kd.M k30 _ _ _ (⟨1,1⟩ : S30) [.int .i64 1,.int .i64 1] from (k30_mkM _ _ _ (⟨1,1⟩ : S30) )) (Reps.c2 (show Kd.M k30 _ _ _ (⟨5,5⟩ : S30) [.int .i64 5,.int .i64 5] from (k30_mkM _ _ _ (⟨5,5⟩ : S30) )) (Reps.none _ _)))));intro v216 w15 ho16 hb hg_ hnew_;clear hg_ hnew_;(first|rw [← Ny215.out] at ho16|(simp only [Int.reduceToNat] at ho16;rw [← Ny215.out] at ho16));have n0_:=Aside0.mk (Kd.R_elder' (by (with_reducible repeat (first|apply ra_|apply rn_|apply rd_));exact HO207.out) (Kd.R_base ho16) hb);have n1_:=Aside0.mk (Kd.R_elder' (by (with_reducible repeat (first|apply ra_|apply rn_|apply rd_));exact HO210.out) (Kd.R_base ho16) hb);have n2_:=Aside0.mk (Kd.R_elder' (by (with_reducible repeat (first|apply ra_|apply rn_|apply rd_));exact HO214.out) (Kd.R_base ho16) hb);have n3_:=Aside0.mk (Kd.R_lower (Kd.R_new' (Kd.R_new' (Kd.R_new' ho16 (Kd.R_lt (by (with_reducible repeat (first|apply ra_|apply rn_|apply rd_));exact HO207.out))) (Kd.R_lt (by (with_reducible repeat (first|apply ra_|apply rn_|apply rd_));exact HO210.out))) (Kd.R_lt (by (with_reducible repeat (first|apply ra_|apply rn_|apply rd_));exact HO214.out))) (below_size (by repeat (first|(with_reducible first|exact HB.out|apply ba_|apply bn_|apply bd_)|exact HB.out))));have n4_:=Aside0.mk (below_step (by repeat (first|(with_reducible first|exact HB.out|apply ba_|apply bn_|apply bd_)|exact HB.out)) hb);clear HO207;clear HO210;clear HO214;clear HB;have HO207:=n0_;have HO210:=n1_;have HO214:=n2_;have HO217:=n3_;have HB:=n4_;clear n0_ n1_ n2_ n3_ n4_;clear hb ho16;obtain ⟨Ao17,co17,eo17⟩:=Kd.R_slice HO217.out;subst eo17)|((with_reducible refine gate_callee (f:=11) rfl ?_);refine goesL_ (some 34) rfl rfl Try.func11 (by kernel_rfl) rfl #[.slice Ao17 y215.length co17] rfl (by (try simp only [List.map_toArray,List.map_cons,List.map_nil]);first|done|rfl|(simp only [List.length_drop,List.length_take];rfl)) ?_;(with_reducible refine (convex_Hull.calls k _ _ y215 t218 t219 _ ?side1 ?side2 A2.out).mono ?_);(case side1=>repeat (first|exact (Kd.R_reads' HO217.out).2.2|(with_reducible refine Kd.C_alloc ?_ _)|(with_reducible refine Kd.C_drewN ?_ _)|(with_reducible refine Kd.C_drew ?_)));(case side2=>exact (Kd.R_reads' HO217.out).2.1);rintro e w18 ⟨v220,rfl,ho0,hb⟩;refine ⟨_,rfl,?_⟩;have n0_:=Aside0.mk (Kd.R_elder' (by (with_reducible repeat (first|apply ra_|apply rn_|apply rd_));exact HO207.out) (Kd.R_base ho0) hb);have n1_:=Aside0.mk (Kd.R_elder' (by (with_reducible repeat (first|apply ra_|apply rn_|apply rd_));exact HO210.out) (Kd.R_base ho0) hb);have n2_:=Aside0.mk (Kd.R_elder' (by (with_reducible repeat (first|apply ra_|apply rn_|apply rd_));exact HO214.out) (Kd.R_base ho0) hb);have n3_:=Aside0.mk (Kd.R_elder' (by (with_reducible repeat (first|apply ra_|apply rn_|apply rd_));exact HO217.out) (Kd.R_base ho0) hb);have n4_:=Aside0.mk (Kd.R_lower (Kd.R_new' (Kd.R_new' (Kd.R_new' (Kd.R_new' ho0 (Kd.R_lt (by (with_reducible repeat (first|apply ra_|apply rn_|apply rd_));exact HO207.out))) (Kd.R_lt (by (with_reducible repeat (first|apply ra_|apply rn_|apply rd_));exact HO210.out))) (Kd.R_lt (by (with_reducible repeat (first|apply ra_|apply rn_|apply rd_));exact HO214.out))) (Kd.R_lt (by (with_reducible repeat (first|apply ra_|apply rn_|apply rd_));exact HO217.out))) (below_size (by repeat (first|(with_reducible first|exact HB.out|apply ba_|apply bn_|apply bd_)|exact HB.out))));have n5_:=Aside0.mk (below_step (by repeat (first|(with_reducible first|exact HB.out|apply ba_|apply bn_|apply bd_)|exact HB.out)) hb);clear HO207;clear HO210;clear HO214;clear HO217;clear HB;have HO207:=n0_;have HO210:=n1_;have HO214:=n2_;have HO217:=n3_;have HO221:=n4_;have HB:=n5_;clear n0_ n1_ n2_ n3_ n4_ n5_;(try clear hb);(try clear hb2);(try clear hk);(try clear hi);(try clear ho0))|((with_reducible refine gate_dst (N:=43) rfl ?_);(try (refine gate_guard (by rfl) ?_;dsimp only));refine Kd.R_lit k30 _ 30 ?hg (N:=43) ?hd (xs:=([(⟨0,0⟩ : S30),(⟨1,0⟩ : S30),(⟨1,1⟩ : S30),(⟨0,1⟩ : S30)] : List (S30))) (inner:=[.int .i64 0,.int .i64 0,.int .i64 1,.int .i64 0,.int .i64 1,.int .i64 1,.int .i64 0,.int .i64 1]) (ok:=fun _=>True) (okp:=fun _=>True) ?hr ?hp (fun _ hk=>hk) trivial (Below.refl _ _) (Nat.le_refl _) (by simp) ?_;(case hd=>rfl);(case hg=>rfl);(case hr=>first|(go_simp;done)|(go_simp;rfl));(case hp=>exact (Reps.c2 (show Kd.M k30 _ _ _ (⟨0,0⟩ : S30) [.int .i64 0,.int .i64 0] from (k30_mkM _ _ _ (⟨0,0⟩ : S30) )) (Reps.c2 (show Kd.M k30 _ _ _ (⟨1,0⟩ : S30) [.int .i64 1,.int .i64 0] from (k30_mkM _ _ _ (⟨1,0⟩ : S30) )) (Reps.c2 (show Kd.M k30 _ _ _ (⟨1,1⟩ : S30) [.int .i64 1,.int .i64 1] from (k30_mkM _ _ _ (⟨1,1⟩ : S30) )) (Reps.c2 (show Kd.M k30 _ _ _ (⟨0,1⟩ : S30) [.int .i64 0,.int .i64 1] from (k30_mkM _ _ _ (⟨0,1⟩ : S30) )) (Reps.none _ _))))));intro v223 w19 ho20 hb hg_ hnew_;clear hg_ hnew_;(first|rw [← Ny222.out] at ho20|(simp only [Int.reduceToNat] at ho20;rw [← Ny222.out] at ho20));have n0_:=Aside0.mk (Kd.R_elder' (by (with_reducible repeat (first|apply ra_|apply rn_|apply rd_));exact HO207.out) (Kd.R_base ho20) hb);have n1_:=Aside0.mk (Kd.R_elder' (by (with_reducible repeat (first|apply ra_|apply rn_|apply rd_));exact HO210.out) (Kd.R_base ho20) hb);have n2_:=Aside0.mk (Kd.R_elder' (by (with_reducible repeat (first|apply ra_|apply rn_|apply rd_));exact HO214.out) (Kd.R_base ho20) hb);have n3_:=Aside0.mk (Kd.R_elder' (by (with_reducible repeat (first|apply ra_|apply rn_|apply rd_));exact HO217.out) (Kd.R_base ho20) hb);have n4_:=Aside0.mk (Kd.R_elder' (by (with_reducible repeat (first|apply ra_|apply rn_|apply rd_));exact HO221.out) (Kd.R_base ho20) hb);have n5_:=Aside0.mk (Kd.R_lower (Kd.R_new' (Kd.R_new' (Kd.R_new' (Kd.R_new' (Kd.R_new' ho20 (Kd.R_lt (by (with_reducible repeat (first|apply ra_|apply rn_|apply rd_));exact HO207.out))) (Kd.R_lt (by (with_reducible repeat (first|apply ra_|apply rn_|apply rd_));exact HO210.out))) (Kd.R_lt (by (with_reducible repeat (first|apply ra_|apply rn_|apply rd_));exact HO214.out))) (Kd.R_lt (by (with_reducible repeat (first|apply ra_|apply rn_|apply rd_));exact HO217.out))) (Kd.R_lt (by (with_reducible repeat (first|apply ra_|apply rn_|apply rd_));exact HO221.out))) (below_size (by repeat (first|(with_reducible first|exact HB.out|apply ba_|apply bn_|apply bd_)|exact HB.out))));have n6_:=Aside0.mk (below_step (by repeat (first|(with_reducible first|exact HB.out|apply ba_|apply bn_|apply bd_)|exact HB.out)) hb);clear HO207;clear HO210;clear HO214;clear HO217;clear HO221;clear HB;have HO207:=n0_;have HO210:=n1_;have HO214:=n2_;have HO217:=n3_;have HO221:=n4_;have HO224:=n5_;have HB:=n6_;clear n0_ n1_ n2_ n3_ n4_ n5_ n6_;clear hb ho20;obtain ⟨Ao21,co21,eo21⟩:=Kd.R_slice HO207.out;subst eo21;obtain ⟨Ao22,co22,eo22⟩:=Kd.R_slice HO224.out;subst eo22)|((with_reducible refine gate_callee (f:=22) rfl ?_);refine goesL_ (some 44) rfl rfl Try.func22 (by kernel_rfl) rfl #[.slice Ao21 y205.length co21,.slice Ao22 y222.length co22] rfl (by (try simp only [List.map_toArray,List.map_cons,List.map_nil]);first|done|rfl|(simp only [List.length_drop,List.length_take];rfl)) ?_;(with_reducible refine (convex_Sum.calls k _ _ y205 _ _ y222 t225 t226 _ ?side1 ?side2 ?side3 ?side4 A3.out).mono ?_);(case side1=>repeat (first|exact (Kd.R_reads' HO207.out).2.2|(with_reducible refine Kd.C_alloc ?_ _)|(with_reducible refine Kd.C_drewN ?_ _)|(with_reducible refine Kd.C_drew ?_)));(case side2=>exact (Kd.R_reads' HO207.out).2.1);(case side3=>repeat (first|exact (Kd.R_reads' HO224.out).2.2|(with_reducible refine Kd.C_alloc ?_ _)|(with_reducible refine Kd.C_drewN ?_ _)|(with_reducible refine Kd.C_drew ?_)));(case side4=>exact (Kd.R_reads' HO224.out).2.1);rintro e w23 ⟨v227,rfl,ho0,hb⟩;refine ⟨_,rfl,?_⟩;have n0_:=Aside0.mk (Kd.R_elder' (by (with_reducible repeat (first|apply ra_|apply rn_|apply rd_));exact HO207.out) (Kd.R_base ho0) hb);have n1_:=Aside0.mk (Kd.R_elder' (by (with_reducible repeat (first|apply ra_|apply rn_|apply rd_));exact HO210.out) (Kd.R_base ho0) hb);have n2_:=Aside0.mk (Kd.R_elder' (by (with_reducible repeat (first|apply ra_|apply rn_|apply rd_));exact HO214.out) (Kd.R_base ho0) hb);have n3_:=Aside0.mk (Kd.R_elder' (by (with_reducible repeat (first|apply ra_|apply rn_|apply rd_));exact HO217.out) (Kd.R_base ho0) hb);have n4_:=Aside0.mk (Kd.R_elder' (by (with_reducible repeat (first|apply ra_|apply rn_|apply rd_));exact HO221.out) (Kd.R_base ho0) hb);have n5_:=Aside0.mk (Kd.R_elder' (by (with_reducible repeat (first|apply ra_|apply rn_|apply rd_));exact HO224.out) (Kd.R_base ho0) hb);have n6_:=Aside0.mk (Kd.R_lower (Kd.R_new' (Kd.R_new' (Kd.R_new' (Kd.R_new' (Kd.R_new' (Kd.R_new' ho0 (Kd.R_lt (by (with_reducible repeat (first|apply ra_|apply rn_|apply rd_));exact HO207.out))) (Kd.R_lt (by (with_reducible repeat (first|apply ra_|apply rn_|apply rd_));exact HO210.out))) (Kd.R_lt (by (with_reducible repeat (first|apply ra_|apply rn_|apply rd_));exact HO214.out))) (Kd.R_lt (by (with_reducible repeat (first|apply ra_|apply rn_|apply rd_));exact HO217.out))) (Kd.R_lt (by (with_reducible repeat (first|apply ra_|apply rn_|apply rd_));exact HO221.out))) (Kd.R_lt (by (with_reducible repeat (first|apply ra_|apply rn_|apply rd_));exact HO224.out))) (below_size (by repeat (first|(with_reducible first|exact HB.out|apply ba_|apply bn_|apply bd_)|exact HB.out))));have n7_:=Aside0.mk (below_step (by repeat (first|(with_reducible first|exact HB.out|apply ba_|apply bn_|apply bd_)|exact HB.out)) hb);clear HO207;clear HO210;clear HO214;clear HO217;clear HO221;clear HO224;clear HB;have HO207:=n0_;have HO210:=n1_;have HO214:=n2_;have HO217:=n3_;have HO221:=n4_;have HO224:=n5_;have HO228:=n6_;have HB:=n7_;clear n0_ n1_ n2_ n3_ n4_ n5_ n6_ n7_;(try clear hb);(try clear hb2);(try clear hk);(try clear hi);(try clear ho0))|((with_reducible refine gate_callee (f:=16) rfl ?_);refine goesL_ (some 50) rfl rfl Try.func16 (by kernel_rfl) rfl #[.slice Ao21 y205.length co21] rfl (by (try simp only [List.map_toArray,List.map_cons,List.map_nil]);first|done|rfl|(simp only [List.length_drop,List.length_take];rfl)) ?_;(with_reducible refine (convex_Negate.calls k _ _ y205 t229 _ ?side1 ?side2 A4.out).mono ?_);(case side1=>repeat (first|exact (Kd.R_reads' HO207.out).2.2|(with_reducible refine Kd.C_alloc ?_ _)|(with_reducible refine Kd.C_drewN ?_ _)|(with_reducible refine Kd.C_drew ?_)));(case side2=>exact (Kd.R_reads' HO207.out).2.1);rintro e w24 ⟨v230,rfl,ho0,hb⟩;refine ⟨_,rfl,?_⟩;have n0_:=Aside0.mk (Kd.R_elder' (by (with_reducible repeat (first|apply ra_|apply rn_|apply rd_));exact HO207.out) (Kd.R_base ho0) hb);have n1_:=Aside0.mk (Kd.R_elder' (by (with_reducible repeat (first|apply ra_|apply rn_|apply rd_));exact HO210.out) (Kd.R_base ho0) hb);have n2_:=Aside0.mk (Kd.R_elder' (by (with_reducible repeat (first|apply ra_|apply rn_|apply rd_));exact HO214.out) (Kd.R_base ho0) hb);have n3_:=Aside0.mk (Kd.R_elder' (by (with_reducible repeat (first|apply ra_|apply rn_|apply rd_));exact HO217.out) (Kd.R_base ho0) hb);have n4_:=Aside0.mk (Kd.R_elder' (by (with_reducible repeat (first|apply ra_|apply rn_|apply rd_));exact HO221.out) (Kd.R_base ho0) hb);have n5_:=Aside0.mk (Kd.R_elder' (by (with_reducible repeat (first|apply ra_|apply rn_|apply rd_));exact HO224.out) (Kd.R_base ho0) hb);have n6_:=Aside0.mk (Kd.R_elder' (by (with_reducible repeat (first|apply ra_|apply rn_|apply rd_));exact HO228.out) (Kd.R_base ho0) hb);have n7_:=Aside0.mk (Kd.R_lower (Kd.R_new' (Kd.R_new' (Kd.R_new' (Kd.R_new' (Kd.R_new' (Kd.R_new' (Kd.R_new' ho0 (Kd.R_lt (by (with_reducible repeat (first|apply ra_|apply rn_|apply rd_));exact HO207.out))) (Kd.R_lt (by (with_reducible repeat (first|apply ra_|apply rn_|apply rd_));exact HO210.out))) (Kd.R_lt (by (with_reducible repeat (first|apply ra_|apply rn_|apply rd_));exact HO214.out))) (Kd.R_lt (by (with_reducible repeat (first|apply ra_|apply rn_|apply rd_));exact HO217.out))) (Kd.R_lt (by (with_reducible repeat (first|apply ra_|apply rn_|apply rd_));exact HO221.out))) (Kd.R_lt (by (with_reducible repeat (first|apply ra_|apply rn_|apply rd_));exact HO224.out))) (Kd.R_lt (by (with_reducible repeat (first|apply ra_|apply rn_|apply rd_));exact HO228.out))) (below_size (by repeat (first|(with_reducible first|exact HB.out|apply ba_|apply bn_|apply bd_)|exact HB.out))));have n8_:=Aside0.mk (below_step (by repeat (first|(with_reducible first|exact HB.out|apply ba_|apply bn_|apply bd_)|exact HB.out)) hb);clear HO207;clear HO210;clear HO214;clear HO217;clear HO221;clear HO224;clear HO228;clear HB;have HO207:=n0_;have HO210:=n1_;have HO214:=n2_;have HO217:=n3_;have HO221:=n4_;have HO224:=n5_;have HO228:=n6_;have HO231:=n7_;have HB:=n8_;clear n0_ n1_ n2_ n3_ n4_ n5_ n6_ n7_ n8_;(try clear hb);(try clear hb2);(try clear hk);(try clear hi);(try clear ho0);obtain ⟨Ao25,co25,eo25⟩:=Kd.R_slice HO231.out;subst eo25)|((with_reducible refine gate_callee (f:=22) rfl ?_);refine goesL_ (some 51) rfl rfl Try.func22 (by kernel_rfl) rfl #[.slice Ao21 y205.length co21,.slice Ao25 t229.length co25] rfl (by (try simp only [List.map_toArray,List.map_cons,List.map_nil]);first|done|rfl|(simp only [List.length_drop,List.length_take];rfl)) ?_;(with_reducible refine (convex_Sum.calls k _ _ y205 _ _ t229 t232 t233 _ ?side1 ?side2 ?side3 ?side4 A5.out).mono ?_);(case side1=>repeat (first|exact (Kd.R_reads' HO207.out).2.2|(with_reducible refine Kd.C_alloc ?_ _)|(with_reducible refine Kd.C_drewN ?_ _)|(with_reducible refine Kd.C_drew ?_)));(case side2=>exact (Kd.R_reads' HO207.out).2.1);(case side3=>repeat (first|exact (Kd.R_reads' HO231.out).2.2|(with_reducible refine Kd.C_alloc ?_ _)|(with_reducible refine Kd.C_drewN ?_ _)|(with_reducible refine Kd.C_drew ?_)));(case side4=>exact (Kd.R_reads' HO231.out).2.1);rintro e w26 ⟨v234,rfl,ho0,hb⟩;refine ⟨_,rfl,?_⟩;have n0_:=Aside0.mk (Kd.R_elder' (by (with_reducible repeat (first|apply ra_|apply rn_|apply rd_));exact HO207.out) (Kd.R_base ho0) hb);have n1_:=Aside0.mk (Kd.R_elder' (by (with_reducible repeat (first|apply ra_|apply rn_|apply rd_));exact HO210.out) (Kd.R_base ho0) hb);have n2_:=Aside0.mk (Kd.R_elder' (by (with_reducible repeat (first|apply ra_|apply rn_|apply rd_));exact HO214.out) (Kd.R_base ho0) hb);have n3_:=Aside0.mk (Kd.R_elder' (by (with_reducible repeat (first|apply ra_|apply rn_|apply rd_));exact HO217.out) (Kd.R_base ho0) hb);have n4_:=Aside0.mk (Kd.R_elder' (by (with_reducible repeat (first|apply ra_|apply rn_|apply rd_));exact HO221.out) (Kd.R_base ho0) hb);have n5_:=Aside0.mk (Kd.R_elder' (by (with_reducible repeat (first|apply ra_|apply rn_|apply rd_));exact HO224.out) (Kd.R_base ho0) hb);have n6_:=Aside0.mk (Kd.R_elder' (by (with_reducible repeat (first|apply ra_|apply rn_|apply rd_));exact HO228.out) (Kd.R_base ho0) hb);have n7_:=Aside0.mk (Kd.R_elder' (by (with_reducible repeat (first|apply ra_|apply rn_|apply rd_));exact HO231.out) (Kd.R_base ho0) hb);have n8_:=Aside0.mk (Kd.R_lower (Kd.R_new' (Kd.R_new' (Kd.R_new' (Kd.R_new' (Kd.R_new' (Kd.R_new' (Kd.R_new' (Kd.R_new' ho0 (Kd.R_lt (by (with_reducible repeat (first|apply ra_|apply rn_|apply rd_));exact HO207.out))) (Kd.R_lt (by (with_reducible repeat (first|apply ra_|apply rn_|apply rd_));exact HO210.out))) (Kd.R_lt (by (with_reducible repeat (first|apply ra_|apply rn_|apply rd_));exact HO214.out))) (Kd.R_lt (by (with_reducible repeat (first|apply ra_|apply rn_|apply rd_));exact HO217.out))) (Kd.R_lt (by (with_reducible repeat (first|apply ra_|apply rn_|apply rd_));exact HO221.out))) (Kd.R_lt (by (with_reducible repeat (first|apply ra_|apply rn_|apply rd_));exact HO224.out))) (Kd.R_lt (by (with_reducible repeat (first|apply ra_|apply rn_|apply rd_));exact HO228.out))) (Kd.R_lt (by (with_reducible repeat (first|apply ra_|apply rn_|apply rd_));exact HO231.out))) (below_size (by repeat (first|(with_reducible first|exact HB.out|apply ba_|apply bn_|apply bd_)|exact HB.out))));have n9_:=Aside0.mk (below_step (by repeat (first|(with_reducible first|exact HB.out|apply ba_|apply bn_|apply bd_)|exact HB.out)) hb);clear HO207;clear HO210;clear HO214;clear HO217;clear HO221;clear HO224;clear HO228;clear HO231;clear HB;have HO207:=n0_;have HO210:=n1_;have HO214:=n2_;have HO217:=n3_;have HO221:=n4_;have HO224:=n5_;have HO228:=n6_;have HO231:=n7_;have HO235:=n8_;have HB:=n9_;clear n0_ n1_ n2_ n3_ n4_ n5_ n6_ n7_ n8_ n9_;(try clear hb);(try clear hb2);(try clear hk);(try clear hi);(try clear ho0);obtain ⟨Ao27,co27,eo27⟩:=Kd.R_slice HO214.out;subst eo27)|((with_reducible refine gate_callee (f:=14) rfl ?_);refine goesL_ (some 57) rfl rfl Try.func14 (by kernel_rfl) rfl #[.slice Ao27 t211.length co27,.agg #[.int .i64 2,.int .i64 1]] rfl (by (try simp only [List.map_toArray,List.map_cons,List.map_nil]);first|done|rfl|(simp only [List.length_drop,List.length_take];rfl)) ?_;(with_reducible refine (convex_Inside.calls k _ _ t211 2 1 t236 t237 _ ?side1 ?side2 A6.out).mono ?_);(case side1=>repeat (first|exact (Kd.R_reads' HO214.out).2.2|(with_reducible refine Kd.C_alloc ?_ _)|(with_reducible refine Kd.C_drewN ?_ _)|(with_reducible refine Kd.C_drew ?_)));(case side2=>exact (Kd.R_reads' HO214.out).2.1);rintro e w28 ⟨rfl,hb⟩;refine ⟨_,rfl,?_⟩;have n0_:=Aside0.mk (Kd.R_below (by (with_reducible repeat (first|apply ra_|apply rn_|apply rd_));exact HO207.out) hb);have n1_:=Aside0.mk (Kd.R_below (by (with_reducible repeat (first|apply ra_|apply rn_|apply rd_));exact HO210.out) hb);have n2_:=Aside0.mk (Kd.R_below (by (with_reducible repeat (first|apply ra_|apply rn_|apply rd_));exact HO214.out) hb);have n3_:=Aside0.mk (Kd.R_below (by (with_reducible repeat (first|apply ra_|apply rn_|apply rd_));exact HO217.out) hb);have n4_:=Aside0.mk (Kd.R_below (by (with_reducible repeat (first|apply ra_|apply rn_|apply rd_));exact HO221.out) hb);have n5_:=Aside0.mk (Kd.R_below (by (with_reducible repeat (first|apply ra_|apply rn_|apply rd_));exact HO224.out) hb);have n6_:=Aside0.mk (Kd.R_below (by (with_reducible repeat (first|apply ra_|apply rn_|apply rd_));exact HO228.out) hb);have n7_:=Aside0.mk (Kd.R_below (by (with_reducible repeat (first|apply ra_|apply rn_|apply rd_));exact HO231.out) hb);have n8_:=Aside0.mk (Kd.R_below (by (with_reducible repeat (first|apply ra_|apply rn_|apply rd_));exact HO235.out) hb);have n9_:=Aside0.mk (below_step (by repeat (first|(with_reducible first|exact HB.out|apply ba_|apply bn_|apply bd_)|exact HB.out)) hb);clear HO207;clear HO210;clear HO214;clear HO217;clear HO221;clear HO224;clear HO228;clear HO231;clear HO235;clear HB;have HO207:=n0_;have HO210:=n1_;have HO214:=n2_;have HO217:=n3_;have HO221:=n4_;have HO224:=n5_;have HO228:=n6_;have HO231:=n7_;have HO235:=n8_;have HB:=n9_;clear n0_ n1_ n2_ n3_ n4_ n5_ n6_ n7_ n8_ n9_;(try clear hb);(try clear hb2);(try clear hk);(try clear hi))|((with_reducible refine gate_callee (f:=14) rfl ?_);refine goesL_ (some 63) rfl rfl Try.func14 (by kernel_rfl) rfl #[.slice Ao27 t211.length co27,.agg #[.int .i64 1,.int .i64 1]] rfl (by (try simp only [List.map_toArray,List.map_cons,List.map_nil]);first|done|rfl|(simp only [List.length_drop,List.length_take];rfl)) ?_;(with_reducible refine (convex_Inside.calls k _ _ t211 1 1 t238 t239 _ ?side1 ?side2 A7.out).mono ?_);(case side1=>repeat (first|exact (Kd.R_reads' HO214.out).2.2|(with_reducible refine Kd.C_alloc ?_ _)|(with_reducible refine Kd.C_drewN ?_ _)|(with_reducible refine Kd.C_drew ?_)));(case side2=>exact (Kd.R_reads' HO214.out).2.1);rintro e w29 ⟨rfl,hb⟩;refine ⟨_,rfl,?_⟩;have n0_:=Aside0.mk (Kd.R_below (by (with_reducible repeat (first|apply ra_|apply rn_|apply rd_));exact HO207.out) hb);have n1_:=Aside0.mk (Kd.R_below (by (with_reducible repeat (first|apply ra_|apply rn_|apply rd_));exact HO210.out) hb);have n2_:=Aside0.mk (Kd.R_below (by (with_reducible repeat (first|apply ra_|apply rn_|apply rd_));exact HO214.out) hb);have n3_:=Aside0.mk (Kd.R_below (by (with_reducible repeat (first|apply ra_|apply rn_|apply rd_));exact HO217.out) hb);have n4_:=Aside0.mk (Kd.R_below (by (with_reducible repeat (first|apply ra_|apply rn_|apply rd_));exact HO221.out) hb);have n5_:=Aside0.mk (Kd.R_below (by (with_reducible repeat (first|apply ra_|apply rn_|apply rd_));exact HO224.out) hb);have n6_:=Aside0.mk (Kd.R_below (by (with_reducible repeat (first|apply ra_|apply rn_|apply rd_));exact HO228.out) hb);have n7_:=Aside0.mk (Kd.R_below (by (with_reducible repeat (first|apply ra_|apply rn_|apply rd_));exact HO231.out) hb);have n8_:=Aside0.mk (Kd.R_below (by (with_reducible repeat (first|apply ra_|apply rn_|apply rd_));exact HO235.out) hb);have n9_:=Aside0.mk (below_step (by repeat (first|(with_reducible first|exact HB.out|apply ba_|apply bn_|apply bd_)|exact HB.out)) hb);clear HO207;clear HO210;clear HO214;clear HO217;clear HO221;clear HO224;clear HO228;clear HO231;clear HO235;clear HB;have HO207:=n0_;have HO210:=n1_;have HO214:=n2_;have HO217:=n3_;have HO221:=n4_;have HO224:=n5_;have HO228:=n6_;have HO231:=n7_;have HO235:=n8_;have HB:=n9_;clear n0_ n1_ n2_ n3_ n4_ n5_ n6_ n7_ n8_ n9_;(try clear hb);(try clear hb2);(try clear hk);(try clear hi)))
 (try simp only [Act.put,la_,l0_,l1_])
 go_cut [94] (fun v94 wc=>∃ (kq : Nat) (x94_7 : Bool),v94 = .bool x94_7∧Aside0 (garmentlaw14_awake.j0 kq y205 t211 t225 t232 x94_7 = some r)∧Aside0 (kq ≤ k)∧Aside0 (Kd.R k30 30 wc w.heap.size (fun k_=>some k_ ≠ ((.slice Ao27 t211.length co27) : Value).ownBlock∧some k_ ≠ (v227 : Value).ownBlock∧some k_ ≠ (v234 : Value).ownBlock) (.slice Ao21 y205.length co21) y205)∧Aside0 (Kd.R k30 30 wc w.heap.size (fun k_=>some k_ ≠ ((.slice Ao21 y205.length co21) : Value).ownBlock∧some k_ ≠ (v227 : Value).ownBlock∧some k_ ≠ (v234 : Value).ownBlock) (.slice Ao27 t211.length co27) t211)∧Aside0 (Kd.R k30 30 wc w.heap.size (fun k_=>some k_ ≠ ((.slice Ao21 y205.length co21) : Value).ownBlock∧some k_ ≠ ((.slice Ao27 t211.length co27) : Value).ownBlock∧some k_ ≠ (v234 : Value).ownBlock) v227 t225)∧Aside0 (Kd.R k30 30 wc w.heap.size (fun k_=>some k_ ≠ ((.slice Ao21 y205.length co21) : Value).ownBlock∧some k_ ≠ ((.slice Ao27 t211.length co27) : Value).ownBlock∧some k_ ≠ (v227 : Value).ownBlock) v234 t232)∧Aside0 (Below w.heap.size w wc))
 case first =>
  have H:=HC8.out
  clear HC8
  by_cases c30 : t212 = 0
  ·
   rw [if_pos c30] at H
   have c30b0 : (t212 == 0) = true:=beq_iff_eq.mpr c30
   have c30b1 : (t212 != 0) = false:=bne_eq_false_iff_eq.mpr c30
   clear c30
   (first|rw [c30b0]|(simp only [i64_w,i32_w];rw [c30b0])|skip)
   by_cases c31 : t219 = 11
   ·
    rw [if_pos c31] at H
    have c31b0 : (t219 == 11) = true:=beq_iff_eq.mpr c31
    have c31b1 : (t219 != 11) = false:=bne_eq_false_iff_eq.mpr c31
    clear c31
    by_cases c32 : t226 = 0
    ·
     rw [if_pos c32] at H
     have c32b0 : (t226 == 0) = true:=beq_iff_eq.mpr c32
     have c32b1 : (t226 != 0) = false:=bne_eq_false_iff_eq.mpr c32
     clear c32
     by_cases c33 : t233 = 0
     ·
      rw [if_pos c33] at H
      have c33b0 : (t233 == 0) = true:=beq_iff_eq.mpr c33
      have c33b1 : (t233 != 0) = false:=bne_eq_false_iff_eq.mpr c33
      clear c33
      by_cases c34 : t237 = 0
      ·
       rw [if_pos c34] at H
       have c34b0 : (t237 == 0) = true:=beq_iff_eq.mpr c34
       have c34b1 : (t237 != 0) = false:=bne_eq_false_iff_eq.mpr c34
       clear c34
       by_cases c35 : t239 = 0
       ·
        rw [if_pos c35] at H
        have c35b0 : (t239 == 0) = true:=beq_iff_eq.mpr c35
        have c35b1 : (t239 != 0) = false:=bne_eq_false_iff_eq.mpr c35
        clear c35
        by_cases c36 : t236 = true
        ·
         subst c36
         have H1 : (garmentlaw14_awake.j0 k y205 t211 t225 t232 t238) = some r:=by rw [if_pos rfl] at H;exact H
         clear H
         have H:=H1
         clear H1
         have H':=Aside0.mk H
         clear H
         go_wp2
         go_meet
         case rel=>exact ⟨_,(t238),(by first|rfl|(simp;done)|(simp [*];done)),H',⟨by first|omega|exact Nat.le_refl _⟩,⟨by (with_reducible repeat (first|apply ra_|apply rn_|apply rd_));exact Kd.R_mono HO207.out (fun _ hk=>⟨hk.1.1.1.1.1.1.2,⟨hk.1.1.2,hk.2⟩⟩)⟩,⟨by (with_reducible repeat (first|apply ra_|apply rn_|apply rd_));exact Kd.R_mono HO214.out (fun _ hk=>⟨hk.1.1.1.1.1.1.1.2,⟨hk.1.1.2,hk.2⟩⟩)⟩,⟨by (with_reducible repeat (first|apply ra_|apply rn_|apply rd_));exact Kd.R_mono HO228.out (fun _ hk=>⟨hk.1.1.1.1.1.1.1.2,⟨hk.1.1.1.1.1.2,hk.2⟩⟩)⟩,⟨by (with_reducible repeat (first|apply ra_|apply rn_|apply rd_));exact Kd.R_mono HO235.out (fun _ hk=>⟨hk.1.1.1.1.1.1.1.2,⟨hk.1.1.1.1.1.2,hk.1.2⟩⟩)⟩,⟨by repeat (first|(with_reducible first|exact HB.out|apply ba_|apply bn_|apply bd_)|exact HB.out)⟩⟩
        replace c36:=Bool.eq_false_iff.mpr c36
        subst c36
        have H1 : (garmentlaw14_awake.j0 k y205 t211 t225 t232 true) = some r:=by rw [if_neg (show ¬ (false = true) by decide)] at H;exact H
        clear H
        have H:=H1
        clear H1
        have H':=Aside0.mk H
        clear H
        go_wp2
        go_meet
        case rel=>exact ⟨_,(true),(by first|rfl|(simp;done)|(simp [*];done)),H',⟨by first|omega|exact Nat.le_refl _⟩,⟨by (with_reducible repeat (first|apply ra_|apply rn_|apply rd_));exact Kd.R_mono HO207.out (fun _ hk=>⟨hk.1.1.1.1.1.1.2,⟨hk.1.1.2,hk.2⟩⟩)⟩,⟨by (with_reducible repeat (first|apply ra_|apply rn_|apply rd_));exact Kd.R_mono HO214.out (fun _ hk=>⟨hk.1.1.1.1.1.1.1.2,⟨hk.1.1.2,hk.2⟩⟩)⟩,⟨by (with_reducible repeat (first|apply ra_|apply rn_|apply rd_));exact Kd.R_mono HO228.out (fun _ hk=>⟨hk.1.1.1.1.1.1.1.2,⟨hk.1.1.1.1.1.2,hk.2⟩⟩)⟩,⟨by (with_reducible repeat (first|apply ra_|apply rn_|apply rd_));exact Kd.R_mono HO235.out (fun _ hk=>⟨hk.1.1.1.1.1.1.1.2,⟨hk.1.1.1.1.1.2,hk.1.2⟩⟩)⟩,⟨by repeat (first|(with_reducible first|exact HB.out|apply ba_|apply bn_|apply bd_)|exact HB.out)⟩⟩
       rw [if_neg c35] at H
       have c35b0 : (t239 == 0) = false:=beq_eq_false_iff_ne.mpr c35
       have c35b1 : (t239 != 0) = true:=bne_iff_ne.mpr c35
       have H':=Aside0.mk H
       clear H
       go_wp2
       go_meet
       case rel=>exact ⟨_,(true),(by first|rfl|(simp;done)|(simp [*];done)),H',⟨by first|omega|exact Nat.le_refl _⟩,⟨by (with_reducible repeat (first|apply ra_|apply rn_|apply rd_));exact Kd.R_mono HO207.out (fun _ hk=>⟨hk.1.1.1.1.1.1.2,⟨hk.1.1.2,hk.2⟩⟩)⟩,⟨by (with_reducible repeat (first|apply ra_|apply rn_|apply rd_));exact Kd.R_mono HO214.out (fun _ hk=>⟨hk.1.1.1.1.1.1.1.2,⟨hk.1.1.2,hk.2⟩⟩)⟩,⟨by (with_reducible repeat (first|apply ra_|apply rn_|apply rd_));exact Kd.R_mono HO228.out (fun _ hk=>⟨hk.1.1.1.1.1.1.1.2,⟨hk.1.1.1.1.1.2,hk.2⟩⟩)⟩,⟨by (with_reducible repeat (first|apply ra_|apply rn_|apply rd_));exact Kd.R_mono HO235.out (fun _ hk=>⟨hk.1.1.1.1.1.1.1.2,⟨hk.1.1.1.1.1.2,hk.1.2⟩⟩)⟩,⟨by repeat (first|(with_reducible first|exact HB.out|apply ba_|apply bn_|apply bd_)|exact HB.out)⟩⟩
      rw [if_neg c34] at H
      have c34b0 : (t237 == 0) = false:=beq_eq_false_iff_ne.mpr c34
      have c34b1 : (t237 != 0) = true:=bne_iff_ne.mpr c34
      have H':=Aside0.mk H
      clear H
      go_wp2
      go_meet
      case rel=>exact ⟨_,(true),(by first|rfl|(simp;done)|(simp [*];done)),H',⟨by first|omega|exact Nat.le_refl _⟩,⟨by (with_reducible repeat (first|apply ra_|apply rn_|apply rd_));exact Kd.R_mono HO207.out (fun _ hk=>⟨hk.1.1.1.1.1.1.2,⟨hk.1.1.2,hk.2⟩⟩)⟩,⟨by (with_reducible repeat (first|apply ra_|apply rn_|apply rd_));exact Kd.R_mono HO214.out (fun _ hk=>⟨hk.1.1.1.1.1.1.1.2,⟨hk.1.1.2,hk.2⟩⟩)⟩,⟨by (with_reducible repeat (first|apply ra_|apply rn_|apply rd_));exact Kd.R_mono HO228.out (fun _ hk=>⟨hk.1.1.1.1.1.1.1.2,⟨hk.1.1.1.1.1.2,hk.2⟩⟩)⟩,⟨by (with_reducible repeat (first|apply ra_|apply rn_|apply rd_));exact Kd.R_mono HO235.out (fun _ hk=>⟨hk.1.1.1.1.1.1.1.2,⟨hk.1.1.1.1.1.2,hk.1.2⟩⟩)⟩,⟨by repeat (first|(with_reducible first|exact HB.out|apply ba_|apply bn_|apply bd_)|exact HB.out)⟩⟩
     rw [if_neg c33] at H
     have c33b0 : (t233 == 0) = false:=beq_eq_false_iff_ne.mpr c33
     have c33b1 : (t233 != 0) = true:=bne_iff_ne.mpr c33
     have H':=Aside0.mk H
     clear H
     go_wp2
     go_meet
     case rel=>exact ⟨_,(true),(by first|rfl|(simp;done)|(simp [*];done)),H',⟨by first|omega|exact Nat.le_refl _⟩,⟨by (with_reducible repeat (first|apply ra_|apply rn_|apply rd_));exact Kd.R_mono HO207.out (fun _ hk=>⟨hk.1.1.1.1.1.1.2,⟨hk.1.1.2,hk.2⟩⟩)⟩,⟨by (with_reducible repeat (first|apply ra_|apply rn_|apply rd_));exact Kd.R_mono HO214.out (fun _ hk=>⟨hk.1.1.1.1.1.1.1.2,⟨hk.1.1.2,hk.2⟩⟩)⟩,⟨by (with_reducible repeat (first|apply ra_|apply rn_|apply rd_));exact Kd.R_mono HO228.out (fun _ hk=>⟨hk.1.1.1.1.1.1.1.2,⟨hk.1.1.1.1.1.2,hk.2⟩⟩)⟩,⟨by (with_reducible repeat (first|apply ra_|apply rn_|apply rd_));exact Kd.R_mono HO235.out (fun _ hk=>⟨hk.1.1.1.1.1.1.1.2,⟨hk.1.1.1.1.1.2,hk.1.2⟩⟩)⟩,⟨by repeat (first|(with_reducible first|exact HB.out|apply ba_|apply bn_|apply bd_)|exact HB.out)⟩⟩
    rw [if_neg c32] at H
    have c32b0 : (t226 == 0) = false:=beq_eq_false_iff_ne.mpr c32
    have c32b1 : (t226 != 0) = true:=bne_iff_ne.mpr c32
    have H':=Aside0.mk H
    clear H
    go_wp2
    go_meet
    case rel=>exact ⟨_,(true),(by first|rfl|(simp;done)|(simp [*];done)),H',⟨by first|omega|exact Nat.le_refl _⟩,⟨by (with_reducible repeat (first|apply ra_|apply rn_|apply rd_));exact Kd.R_mono HO207.out (fun _ hk=>⟨hk.1.1.1.1.1.1.2,⟨hk.1.1.2,hk.2⟩⟩)⟩,⟨by (with_reducible repeat (first|apply ra_|apply rn_|apply rd_));exact Kd.R_mono HO214.out (fun _ hk=>⟨hk.1.1.1.1.1.1.1.2,⟨hk.1.1.2,hk.2⟩⟩)⟩,⟨by (with_reducible repeat (first|apply ra_|apply rn_|apply rd_));exact Kd.R_mono HO228.out (fun _ hk=>⟨hk.1.1.1.1.1.1.1.2,⟨hk.1.1.1.1.1.2,hk.2⟩⟩)⟩,⟨by (with_reducible repeat (first|apply ra_|apply rn_|apply rd_));exact Kd.R_mono HO235.out (fun _ hk=>⟨hk.1.1.1.1.1.1.1.2,⟨hk.1.1.1.1.1.2,hk.1.2⟩⟩)⟩,⟨by repeat (first|(with_reducible first|exact HB.out|apply ba_|apply bn_|apply bd_)|exact HB.out)⟩⟩
   rw [if_neg c31] at H
   have c31b0 : (t219 == 11) = false:=beq_eq_false_iff_ne.mpr c31
   have c31b1 : (t219 != 11) = true:=bne_iff_ne.mpr c31
   have H':=Aside0.mk H
   clear H
   go_wp2
   go_meet
   case rel=>exact ⟨_,(true),(by first|rfl|(simp;done)|(simp [*];done)),H',⟨by first|omega|exact Nat.le_refl _⟩,⟨by (with_reducible repeat (first|apply ra_|apply rn_|apply rd_));exact Kd.R_mono HO207.out (fun _ hk=>⟨hk.1.1.1.1.1.1.2,⟨hk.1.1.2,hk.2⟩⟩)⟩,⟨by (with_reducible repeat (first|apply ra_|apply rn_|apply rd_));exact Kd.R_mono HO214.out (fun _ hk=>⟨hk.1.1.1.1.1.1.1.2,⟨hk.1.1.2,hk.2⟩⟩)⟩,⟨by (with_reducible repeat (first|apply ra_|apply rn_|apply rd_));exact Kd.R_mono HO228.out (fun _ hk=>⟨hk.1.1.1.1.1.1.1.2,⟨hk.1.1.1.1.1.2,hk.2⟩⟩)⟩,⟨by (with_reducible repeat (first|apply ra_|apply rn_|apply rd_));exact Kd.R_mono HO235.out (fun _ hk=>⟨hk.1.1.1.1.1.1.1.2,⟨hk.1.1.1.1.1.2,hk.1.2⟩⟩)⟩,⟨by repeat (first|(with_reducible first|exact HB.out|apply ba_|apply bn_|apply bd_)|exact HB.out)⟩⟩
  rw [if_neg c30] at H
  have c30b0 : (t212 == 0) = false:=beq_eq_false_iff_ne.mpr c30
  have c30b1 : (t212 != 0) = true:=bne_iff_ne.mpr c30
  (first|rw [c30b0]|(simp only [i64_w,i32_w];rw [c30b0])|skip)
  have H':=Aside0.mk H
  clear H
  go_wp2
  go_meet
  case rel=>exact ⟨_,(true),(by first|rfl|(simp;done)|(simp [*];done)),H',⟨by first|omega|exact Nat.le_refl _⟩,⟨by (with_reducible repeat (first|apply ra_|apply rn_|apply rd_));exact Kd.R_mono HO207.out (fun _ hk=>⟨hk.1.1.1.1.1.1.2,⟨hk.1.1.2,hk.2⟩⟩)⟩,⟨by (with_reducible repeat (first|apply ra_|apply rn_|apply rd_));exact Kd.R_mono HO214.out (fun _ hk=>⟨hk.1.1.1.1.1.1.1.2,⟨hk.1.1.2,hk.2⟩⟩)⟩,⟨by (with_reducible repeat (first|apply ra_|apply rn_|apply rd_));exact Kd.R_mono HO228.out (fun _ hk=>⟨hk.1.1.1.1.1.1.1.2,⟨hk.1.1.1.1.1.2,hk.2⟩⟩)⟩,⟨by (with_reducible repeat (first|apply ra_|apply rn_|apply rd_));exact Kd.R_mono HO235.out (fun _ hk=>⟨hk.1.1.1.1.1.1.1.2,⟨hk.1.1.1.1.1.2,hk.1.2⟩⟩)⟩,⟨by repeat (first|(with_reducible first|exact HB.out|apply ba_|apply bn_|apply bd_)|exact HB.out)⟩⟩
 case rest =>
  clear HC8
  try clear c1
  try clear c2
  try clear p2
  try clear c3
  try clear c10
  try clear c11
  try clear c14
  try clear c16
  try clear c22
  try clear c30
  try clear c30b0
  try clear c30b1
  try clear c31
  try clear c31b0
  try clear c31b1
  try clear c32
  try clear c32b0
  try clear c32b1
  try clear c33
  try clear c33b0
  try clear c33b1
  try clear c34
  try clear c34b0
  try clear c34b1
  try clear c35
  try clear c35b0
  try clear c35b1
  try clear c36
  obtain ⟨kq,x94_7,rfl,HA,HJ7,HO_1,HO_2,HO_6,HO_8,HB⟩:=hcut
  cases kq with
  | zero=>exact absurd HA.out (by simp [garmentlaw14_awake.j0])
  | succ kj7 =>
   have H:=HA.out
   clear HA
   simp only [garmentlaw14_awake.j0] at H
   by_cases c37 : x94_7 = true
   ·
    subst c37
    have H1 : (some false) = some r:=by rw [if_pos rfl] at H;exact H
    clear H
    have H:=H1
    clear H1
    obtain rfl:=Option.some.inj H
    go_wp2
    go_ret
    exact ⟨by first|rfl|(simp [errW_none,errW_some] <;> rfl)|(simp [*,errW_none,errW_some] <;> rfl),by repeat (first|(with_reducible first|exact HB.out|apply ba_|apply bn_|apply bd_)|exact HB.out)⟩
   replace c37:=Bool.eq_false_iff.mpr c37
   subst c37
   have H1 : ((garmentref11_Same.f kj7 t211 (([(⟨0,0⟩ : S30),(⟨4,0⟩ : S30),(⟨2,2⟩ : S30)] : List (S30)))).bind fun t243=>(if t243 = true then ((garmentref11_Same.f kj7 t225 (([(⟨0,0⟩ : S30),(⟨3,0⟩ : S30),(⟨3,1⟩ : S30),(⟨1,3⟩ : S30),(⟨0,3⟩ : S30)] : List (S30)))).bind fun t247=>(if t247 = true then ((garmentref11_Same.f kj7 t232 (([(⟨(-2),0⟩ : S30),(⟨0,(-2)⟩ : S30),(⟨2,(-2)⟩ : S30),(⟨2,0⟩ : S30),(⟨0,2⟩ : S30),(⟨(-2),2⟩ : S30)] : List (S30)))).bind fun t251=>(garmentlaw14_awake.j1 kj7 y205 (!t251))) else (garmentlaw14_awake.j1 kj7 y205 true))) else (garmentlaw14_awake.j1 kj7 y205 true))) = some r:=by rw [if_neg (show ¬ (false = true) by decide)] at H;exact H
   clear H
   have H:=H1
   clear H1
   have HC38:=Aside0.mk H
   clear H
   go_upto_region 10 with (fail)
   go_cut [124] (fun v124 wc=>∃ (kq : Nat) (x124_37 : Bool),v124 = .bool x124_37∧Aside0 (garmentlaw14_awake.j1 kq y205 x124_37 = some r)∧Aside0 (kq ≤ kj7)∧Aside0 (Kd.R k30 30 wc w.heap.size (fun _=>True) (.slice Ao21 y205.length co21) y205)∧Aside0 (Below w.heap.size w wc))
   case first =>
    have H:=HC38.out
    clear HC38
    obtain ⟨y240,hy240⟩ : ∃ y_ : List (S30),y_ = (([(⟨0,0⟩ : S30),(⟨4,0⟩ : S30),(⟨2,2⟩ : S30)] : List (S30))):=⟨_,rfl⟩
    replace H : ((garmentref11_Same.f kj7 t211 y240).bind fun t243=>(if t243 = true then ((garmentref11_Same.f kj7 t225 (([(⟨0,0⟩ : S30),(⟨3,0⟩ : S30),(⟨3,1⟩ : S30),(⟨1,3⟩ : S30),(⟨0,3⟩ : S30)] : List (S30)))).bind fun t247=>(if t247 = true then ((garmentref11_Same.f kj7 t232 (([(⟨(-2),0⟩ : S30),(⟨0,(-2)⟩ : S30),(⟨2,(-2)⟩ : S30),(⟨2,0⟩ : S30),(⟨0,2⟩ : S30),(⟨(-2),2⟩ : S30)] : List (S30)))).bind fun t251=>(garmentlaw14_awake.j1 kj7 y205 (!t251))) else (garmentlaw14_awake.j1 kj7 y205 true))) else (garmentlaw14_awake.j1 kj7 y205 true))) = some r:=by first|(rw [hy240];with_reducible exact H)|(have H2_:=(Option.bind_some _ _).symm.trans H;rw [hy240];with_reducible exact H2_)|(have H2_:=(Option.bind_some _ _).symm.trans H;with_reducible exact H2_)|with_reducible exact H|(rw [hy240];exact H)|exact H
    have Ny240:=Aside0.mk hy240
    clear hy240
    replace H:=Option.bind_eq_some_iff.mp H
    obtain ⟨t243,A390,H⟩:=H
    replace H : (if t243 = true then ((garmentref11_Same.f kj7 t225 (([(⟨0,0⟩ : S30),(⟨3,0⟩ : S30),(⟨3,1⟩ : S30),(⟨1,3⟩ : S30),(⟨0,3⟩ : S30)] : List (S30)))).bind fun t247=>(if t247 = true then ((garmentref11_Same.f kj7 t232 (([(⟨(-2),0⟩ : S30),(⟨0,(-2)⟩ : S30),(⟨2,(-2)⟩ : S30),(⟨2,0⟩ : S30),(⟨0,2⟩ : S30),(⟨(-2),2⟩ : S30)] : List (S30)))).bind fun t251=>(garmentlaw14_awake.j1 kj7 y205 (!t251))) else (garmentlaw14_awake.j1 kj7 y205 true))) else (garmentlaw14_awake.j1 kj7 y205 true)) = some r:=H
    have A39:=Aside0.mk A390
    clear A390
    by_cases c40 : t243 = true
    ·
     subst c40
     have H1 : ((garmentref11_Same.f kj7 t225 (([(⟨0,0⟩ : S30),(⟨3,0⟩ : S30),(⟨3,1⟩ : S30),(⟨1,3⟩ : S30),(⟨0,3⟩ : S30)] : List (S30)))).bind fun t247=>(if t247 = true then ((garmentref11_Same.f kj7 t232 (([(⟨(-2),0⟩ : S30),(⟨0,(-2)⟩ : S30),(⟨2,(-2)⟩ : S30),(⟨2,0⟩ : S30),(⟨0,2⟩ : S30),(⟨(-2),2⟩ : S30)] : List (S30)))).bind fun t251=>(garmentlaw14_awake.j1 kj7 y205 (!t251))) else (garmentlaw14_awake.j1 kj7 y205 true))) = some r:=by rw [if_pos rfl] at H;exact H
     clear H
     have H:=H1
     clear H1
     obtain ⟨y244,hy244⟩ : ∃ y_ : List (S30),y_ = (([(⟨0,0⟩ : S30),(⟨3,0⟩ : S30),(⟨3,1⟩ : S30),(⟨1,3⟩ : S30),(⟨0,3⟩ : S30)] : List (S30))):=⟨_,rfl⟩
     replace H : ((garmentref11_Same.f kj7 t225 y244).bind fun t247=>(if t247 = true then ((garmentref11_Same.f kj7 t232 (([(⟨(-2),0⟩ : S30),(⟨0,(-2)⟩ : S30),(⟨2,(-2)⟩ : S30),(⟨2,0⟩ : S30),(⟨0,2⟩ : S30),(⟨(-2),2⟩ : S30)] : List (S30)))).bind fun t251=>(garmentlaw14_awake.j1 kj7 y205 (!t251))) else (garmentlaw14_awake.j1 kj7 y205 true))) = some r:=by first|(rw [hy244];with_reducible exact H)|(have H2_:=(Option.bind_some _ _).symm.trans H;rw [hy244];with_reducible exact H2_)|(have H2_:=(Option.bind_some _ _).symm.trans H;with_reducible exact H2_)|with_reducible exact H|(rw [hy244];exact H)|exact H
     have Ny244:=Aside0.mk hy244
     clear hy244
     replace H:=Option.bind_eq_some_iff.mp H
     obtain ⟨t247,A410,H⟩:=H
     replace H : (if t247 = true then ((garmentref11_Same.f kj7 t232 (([(⟨(-2),0⟩ : S30),(⟨0,(-2)⟩ : S30),(⟨2,(-2)⟩ : S30),(⟨2,0⟩ : S30),(⟨0,2⟩ : S30),(⟨(-2),2⟩ : S30)] : List (S30)))).bind fun t251=>(garmentlaw14_awake.j1 kj7 y205 (!t251))) else (garmentlaw14_awake.j1 kj7 y205 true)) = some r:=H
     have A41:=Aside0.mk A410
     clear A410
     by_cases c42 : t247 = true
     ·
      subst c42
      have H1 : ((garmentref11_Same.f kj7 t232 (([(⟨(-2),0⟩ : S30),(⟨0,(-2)⟩ : S30),(⟨2,(-2)⟩ : S30),(⟨2,0⟩ : S30),(⟨0,2⟩ : S30),(⟨(-2),2⟩ : S30)] : List (S30)))).bind fun t251=>(garmentlaw14_awake.j1 kj7 y205 (!t251))) = some r:=by rw [if_pos rfl] at H;exact H
      clear H
      have H:=H1
      clear H1
      obtain ⟨y248,hy248⟩ : ∃ y_ : List (S30),y_ = (([(⟨(-2),0⟩ : S30),(⟨0,(-2)⟩ : S30),(⟨2,(-2)⟩ : S30),(⟨2,0⟩ : S30),(⟨0,2⟩ : S30),(⟨(-2),2⟩ : S30)] : List (S30))):=⟨_,rfl⟩
      replace H : ((garmentref11_Same.f kj7 t232 y248).bind fun t251=>(garmentlaw14_awake.j1 kj7 y205 (!t251))) = some r:=by first|(rw [hy248];with_reducible exact H)|(have H2_:=(Option.bind_some _ _).symm.trans H;rw [hy248];with_reducible exact H2_)|(have H2_:=(Option.bind_some _ _).symm.trans H;with_reducible exact H2_)|with_reducible exact H|(rw [hy248];exact H)|exact H
      have Ny248:=Aside0.mk hy248
      clear hy248
      replace H:=Option.bind_eq_some_iff.mp H
      obtain ⟨t251,A430,H⟩:=H
      replace H : (garmentlaw14_awake.j1 kj7 y205 (!t251)) = some r:=H
      have A43:=Aside0.mk A430
      clear A430
      have H':=Aside0.mk H
      clear H
      go_wp2_with (first|((with_reducible refine gate_dst (N:=99) rfl ?_);(try (refine gate_guard (by rfl) ?_;dsimp only));refine Kd.R_lit k30 _ 30 ?hg (N:=99) ?hd (xs:=([(⟨0,0⟩ : S30),(⟨4,0⟩ : S30),(⟨2,2⟩ : S30)] : List (S30))) (inner:=[.int .i64 0,.int .i64 0,.int .i64 4,.int .i64 0,.int .i64 2,.int .i64 2]) (ok:=fun _=>True) (okp:=fun _=>True) ?hr ?hp (fun _ hk=>hk) trivial (Below.refl _ _) (Nat.le_refl _) (by simp) ?_;(case hd=>rfl);(case hg=>rfl);(case hr=>first|(go_simp;done)|(go_simp;rfl));(case hp=>exact (Reps.c2 (show Kd.M k30 _ _ _ (⟨0,0⟩ : S30) [.int .i64 0,.int .i64 0] from (k30_mkM _ _ _ (⟨0,0⟩ : S30) )) (Reps.c2 (show Kd.M k30 _ _ _ (⟨4,0⟩ : S30) [.int .i64 4,.int .i64 0] from (k30_mkM _ _ _ (⟨4,0⟩ : S30) )) (Reps.c2 (show Kd.M k30 _ _ _ (⟨2,2⟩ : S30) [.int .i64 2,.int .i64 2] from (k30_mkM _ _ _ (⟨2,2⟩ : S30) )) (Reps.none _ _)))));intro v241 w44 ho45 hb hg_ hnew_;clear hg_ hnew_;(first|rw [← Ny240.out] at ho45|(simp only [Int.reduceToNat] at ho45;rw [← Ny240.out] at ho45));have n0_:=Aside0.mk (Kd.R_elder' (by (with_reducible repeat (first|apply ra_|apply rn_|apply rd_));exact HO_1.out) (Kd.R_base ho45) hb);have n1_:=Aside0.mk (Kd.R_elder' (by (with_reducible repeat (first|apply ra_|apply rn_|apply rd_));exact HO_2.out) (Kd.R_base ho45) hb);have n2_:=Aside0.mk (Kd.R_elder' (by (with_reducible repeat (first|apply ra_|apply rn_|apply rd_));exact HO_6.out) (Kd.R_base ho45) hb);have n3_:=Aside0.mk (Kd.R_elder' (by (with_reducible repeat (first|apply ra_|apply rn_|apply rd_));exact HO_8.out) (Kd.R_base ho45) hb);have n4_:=Aside0.mk (Kd.R_lower (Kd.R_new' (Kd.R_new' (Kd.R_new' (Kd.R_new' ho45 (Kd.R_lt (by (with_reducible repeat (first|apply ra_|apply rn_|apply rd_));exact HO_1.out))) (Kd.R_lt (by (with_reducible repeat (first|apply ra_|apply rn_|apply rd_));exact HO_2.out))) (Kd.R_lt (by (with_reducible repeat (first|apply ra_|apply rn_|apply rd_));exact HO_6.out))) (Kd.R_lt (by (with_reducible repeat (first|apply ra_|apply rn_|apply rd_));exact HO_8.out))) (below_size (by repeat (first|(with_reducible first|exact HB.out|apply ba_|apply bn_|apply bd_)|exact HB.out))));have n5_:=Aside0.mk (below_step (by repeat (first|(with_reducible first|exact HB.out|apply ba_|apply bn_|apply bd_)|exact HB.out)) hb);clear HO_1;clear HO_2;clear HO_6;clear HO_8;clear HB;have HO_1:=n0_;have HO_2:=n1_;have HO_6:=n2_;have HO_8:=n3_;have HO242:=n4_;have HB:=n5_;clear n0_ n1_ n2_ n3_ n4_ n5_;clear hb ho45;obtain ⟨Ao46,co46,eo46⟩:=Kd.R_slice HO242.out;subst eo46)|((with_reducible refine gate_callee (f:=13) rfl ?_);refine goesL_ (some 100) rfl rfl Try.func13 (by kernel_rfl) rfl #[.slice Ao27 t211.length co27,.slice Ao46 y240.length co46] rfl (by (try simp only [List.map_toArray,List.map_cons,List.map_nil]);first|done|rfl|(simp only [List.length_drop,List.length_take];rfl)) ?_;(with_reducible refine (garmentref11_Same.calls kj7 _ _ t211 _ _ y240 true _ ?side1 ?side2 ?side3 ?side4 A39.out).mono ?_);(case side1=>repeat (first|exact (Kd.R_reads' HO_2.out).2.2|(with_reducible refine Kd.C_alloc ?_ _)|(with_reducible refine Kd.C_drewN ?_ _)|(with_reducible refine Kd.C_drew ?_)));(case side2=>exact (Kd.R_reads' HO_2.out).2.1);(case side3=>repeat (first|exact (Kd.R_reads' HO242.out).2.2|(with_reducible refine Kd.C_alloc ?_ _)|(with_reducible refine Kd.C_drewN ?_ _)|(with_reducible refine Kd.C_drew ?_)));(case side4=>exact (Kd.R_reads' HO242.out).2.1);rintro e w' ⟨rfl,⟨nd,rfl⟩⟩;refine ⟨_,rfl,?_⟩)|((with_reducible refine gate_dst (N:=109) rfl ?_);(try (refine gate_guard (by rfl) ?_;dsimp only));refine Kd.R_lit k30 _ 30 ?hg (N:=109) ?hd (xs:=([(⟨0,0⟩ : S30),(⟨3,0⟩ : S30),(⟨3,1⟩ : S30),(⟨1,3⟩ : S30),(⟨0,3⟩ : S30)] : List (S30))) (inner:=[.int .i64 0,.int .i64 0,.int .i64 3,.int .i64 0,.int .i64 3,.int .i64 1,.int .i64 1,.int .i64 3,.int .i64 0,.int .i64 3]) (ok:=fun _=>True) (okp:=fun _=>True) ?hr ?hp (fun _ hk=>hk) trivial (Below.refl _ _) (Nat.le_refl _) (by simp) ?_;(case hd=>rfl);(case hg=>rfl);(case hr=>first|(go_simp;done)|(go_simp;rfl));(case hp=>exact (Reps.c2 (show Kd.M k30 _ _ _ (⟨0,0⟩ : S30) [.int .i64 0,.int .i64 0] from (k30_mkM _ _ _ (⟨0,0⟩ : S30) )) (Reps.c2 (show Kd.M k30 _ _ _ (⟨3,0⟩ : S30) [.int .i64 3,.int .i64 0] from (k30_mkM _ _ _ (⟨3,0⟩ : S30) )) (Reps.c2 (show Kd.M k30 _ _ _ (⟨3,1⟩ : S30) [.int .i64 3,.int .i64 1] from (k30_mkM _ _ _ (⟨3,1⟩ : S30) )) (Reps.c2 (show Kd.M k30 _ _ _ (⟨1,3⟩ : S30) [.int .i64 1,.int .i64 3] from (k30_mkM _ _ _ (⟨1,3⟩ : S30) )) (Reps.c2 (show Kd.M k30 _ _ _ (⟨0,3⟩ : S30) [.int .i64 0,.int .i64 3] from (k30_mkM _ _ _ (⟨0,3⟩ : S30) )) (Reps.none _ _)))))));intro v245 w47 ho48 hb hg_ hnew_;clear hg_ hnew_;(first|rw [← Ny244.out] at ho48|(simp only [Int.reduceToNat] at ho48;rw [← Ny244.out] at ho48));have n0_:=Aside0.mk (Kd.R_elder' (by (with_reducible repeat (first|apply ra_|apply rn_|apply rd_));exact HO_1.out) (Kd.R_base ho48) hb);have n1_:=Aside0.mk (Kd.R_elder' (by (with_reducible repeat (first|apply ra_|apply rn_|apply rd_));exact HO_2.out) (Kd.R_base ho48) hb);have n2_:=Aside0.mk (Kd.R_elder' (by (with_reducible repeat (first|apply ra_|apply rn_|apply rd_));exact HO_6.out) (Kd.R_base ho48) hb);have n3_:=Aside0.mk (Kd.R_elder' (by (with_reducible repeat (first|apply ra_|apply rn_|apply rd_));exact HO_8.out) (Kd.R_base ho48) hb);have n4_:=Aside0.mk (Kd.R_elder' (by (with_reducible repeat (first|apply ra_|apply rn_|apply rd_));exact HO242.out) (Kd.R_base ho48) hb);have n5_:=Aside0.mk (Kd.R_lower (Kd.R_new' (Kd.R_new' (Kd.R_new' (Kd.R_new' (Kd.R_new' ho48 (Kd.R_lt (by (with_reducible repeat (first|apply ra_|apply rn_|apply rd_));exact HO_1.out))) (Kd.R_lt (by (with_reducible repeat (first|apply ra_|apply rn_|apply rd_));exact HO_2.out))) (Kd.R_lt (by (with_reducible repeat (first|apply ra_|apply rn_|apply rd_));exact HO_6.out))) (Kd.R_lt (by (with_reducible repeat (first|apply ra_|apply rn_|apply rd_));exact HO_8.out))) (Kd.R_lt (by (with_reducible repeat (first|apply ra_|apply rn_|apply rd_));exact HO242.out))) (below_size (by repeat (first|(with_reducible first|exact HB.out|apply ba_|apply bn_|apply bd_)|exact HB.out))));have n6_:=Aside0.mk (below_step (by repeat (first|(with_reducible first|exact HB.out|apply ba_|apply bn_|apply bd_)|exact HB.out)) hb);clear HO_1;clear HO_2;clear HO_6;clear HO_8;clear HO242;clear HB;have HO_1:=n0_;have HO_2:=n1_;have HO_6:=n2_;have HO_8:=n3_;have HO242:=n4_;have HO246:=n5_;have HB:=n6_;clear n0_ n1_ n2_ n3_ n4_ n5_ n6_;clear hb ho48;obtain ⟨Ao49,co49,eo49⟩:=Kd.R_slice HO_6.out;subst eo49;obtain ⟨Ao50,co50,eo50⟩:=Kd.R_slice HO246.out;subst eo50)|(go_at_call 13;(with_reducible refine (garmentref11_Same.calls kj7 _ _ t225 _ _ y244 true _ ?side1 ?side2 ?side3 ?side4 A41.out).mono ?_);(case side1=>repeat (first|exact (Kd.R_reads' HO_6.out).2.2|(with_reducible refine Kd.C_alloc ?_ _)|(with_reducible refine Kd.C_drewN ?_ _)|(with_reducible refine Kd.C_drew ?_)));(case side2=>exact (Kd.R_reads' HO_6.out).2.1);(case side3=>repeat (first|exact (Kd.R_reads' HO246.out).2.2|(with_reducible refine Kd.C_alloc ?_ _)|(with_reducible refine Kd.C_drewN ?_ _)|(with_reducible refine Kd.C_drew ?_)));(case side4=>exact (Kd.R_reads' HO246.out).2.1);rintro e w' ⟨rfl,⟨nd,rfl⟩⟩)|((with_reducible refine gate_dst (N:=121) rfl ?_);(try (refine gate_guard (by rfl) ?_;dsimp only));refine Kd.R_lit k30 _ 30 ?hg (N:=121) ?hd (xs:=([(⟨(-2),0⟩ : S30),(⟨0,(-2)⟩ : S30),(⟨2,(-2)⟩ : S30),(⟨2,0⟩ : S30),(⟨0,2⟩ : S30),(⟨(-2),2⟩ : S30)] : List (S30))) (inner:=[.int .i64 (-2),.int .i64 0,.int .i64 0,.int .i64 (-2),.int .i64 2,.int .i64 (-2),.int .i64 2,.int .i64 0,.int .i64 0,.int .i64 2,.int .i64 (-2),.int .i64 2]) (ok:=fun _=>True) (okp:=fun _=>True) ?hr ?hp (fun _ hk=>hk) trivial (Below.refl _ _) (Nat.le_refl _) (by simp) ?_;(case hd=>rfl);(case hg=>rfl);(case hr=>first|(go_simp;done)|(go_simp;rfl));(case hp=>exact (Reps.c2 (show Kd.M k30 _ _ _ (⟨(-2),0⟩ : S30) [.int .i64 (-2),.int .i64 0] from (k30_mkM _ _ _ (⟨(-2),0⟩ : S30) )) (Reps.c2 (show Kd.M k30 _ _ _ (⟨0,(-2)⟩ : S30) [.int .i64 0,.int .i64 (-2)] from (k30_mkM _ _ _ (⟨0,(-2)⟩ : S30) )) (Reps.c2 (show Kd.M k30 _ _ _ (⟨2,(-2)⟩ : S30) [.int .i64 2,.int .i64 (-2)] from (k30_mkM _ _ _ (⟨2,(-2)⟩ : S30) )) (Reps.c2 (show Kd.M k30 _ _ _ (⟨2,0⟩ : S30) [.int .i64 2,.int .i64 0] from (k30_mkM _ _ _ (⟨2,0⟩ : S30) )) (Reps.c2 (show Kd.M k30 _ _ _ (⟨0,2⟩ : S30) [.int .i64 0,.int .i64 2] from (k30_mkM _ _ _ (⟨0,2⟩ : S30) )) (Reps.c2 (show Kd.M k30 _ _ _ (⟨(-2),2⟩ : S30) [.int .i64 (-2),.int .i64 2] from (k30_mkM _ _ _ (⟨(-2),2⟩ : S30) )) (Reps.none _ _))))))));intro v249 w51 ho52 hb hg_ hnew_;clear hg_ hnew_;(first|rw [← Ny248.out] at ho52|(simp only [Int.reduceToNat] at ho52;rw [← Ny248.out] at ho52));have n0_:=Aside0.mk (Kd.R_elder' (by (with_reducible repeat (first|apply ra_|apply rn_|apply rd_));exact HO_1.out) (Kd.R_base ho52) hb);have n1_:=Aside0.mk (Kd.R_elder' (by (with_reducible repeat (first|apply ra_|apply rn_|apply rd_));exact HO_2.out) (Kd.R_base ho52) hb);have n2_:=Aside0.mk (Kd.R_elder' (by (with_reducible repeat (first|apply ra_|apply rn_|apply rd_));exact HO_6.out) (Kd.R_base ho52) hb);have n3_:=Aside0.mk (Kd.R_elder' (by (with_reducible repeat (first|apply ra_|apply rn_|apply rd_));exact HO_8.out) (Kd.R_base ho52) hb);have n4_:=Aside0.mk (Kd.R_elder' (by (with_reducible repeat (first|apply ra_|apply rn_|apply rd_));exact HO242.out) (Kd.R_base ho52) hb);have n5_:=Aside0.mk (Kd.R_elder' (by (with_reducible repeat (first|apply ra_|apply rn_|apply rd_));exact HO246.out) (Kd.R_base ho52) hb);have n6_:=Aside0.mk (Kd.R_lower (Kd.R_new' (Kd.R_new' (Kd.R_new' (Kd.R_new' (Kd.R_new' (Kd.R_new' ho52 (Kd.R_lt (by (with_reducible repeat (first|apply ra_|apply rn_|apply rd_));exact HO_1.out))) (Kd.R_lt (by (with_reducible repeat (first|apply ra_|apply rn_|apply rd_));exact HO_2.out))) (Kd.R_lt (by (with_reducible repeat (first|apply ra_|apply rn_|apply rd_));exact HO_6.out))) (Kd.R_lt (by (with_reducible repeat (first|apply ra_|apply rn_|apply rd_));exact HO_8.out))) (Kd.R_lt (by (with_reducible repeat (first|apply ra_|apply rn_|apply rd_));exact HO242.out))) (Kd.R_lt (by (with_reducible repeat (first|apply ra_|apply rn_|apply rd_));exact HO246.out))) (below_size (by repeat (first|(with_reducible first|exact HB.out|apply ba_|apply bn_|apply bd_)|exact HB.out))));have n7_:=Aside0.mk (below_step (by repeat (first|(with_reducible first|exact HB.out|apply ba_|apply bn_|apply bd_)|exact HB.out)) hb);clear HO_1;clear HO_2;clear HO_6;clear HO_8;clear HO242;clear HO246;clear HB;have HO_1:=n0_;have HO_2:=n1_;have HO_6:=n2_;have HO_8:=n3_;have HO242:=n4_;have HO246:=n5_;have HO250:=n6_;have HB:=n7_;clear n0_ n1_ n2_ n3_ n4_ n5_ n6_ n7_;clear hb ho52;obtain ⟨Ao53,co53,eo53⟩:=Kd.R_slice HO_8.out;subst eo53;obtain ⟨Ao54,co54,eo54⟩:=Kd.R_slice HO250.out;subst eo54)|(go_at_call 13;(with_reducible refine (garmentref11_Same.calls kj7 _ _ t232 _ _ y248 t251 _ ?side1 ?side2 ?side3 ?side4 A43.out).mono ?_);(case side1=>repeat (first|exact (Kd.R_reads' HO_8.out).2.2|(with_reducible refine Kd.C_alloc ?_ _)|(with_reducible refine Kd.C_drewN ?_ _)|(with_reducible refine Kd.C_drew ?_)));(case side2=>exact (Kd.R_reads' HO_8.out).2.1);(case side3=>repeat (first|exact (Kd.R_reads' HO250.out).2.2|(with_reducible refine Kd.C_alloc ?_ _)|(with_reducible refine Kd.C_drewN ?_ _)|(with_reducible refine Kd.C_drew ?_)));(case side4=>exact (Kd.R_reads' HO250.out).2.1);rintro e w' ⟨rfl,⟨nd,rfl⟩⟩))
      go_meet
      case rel=>exact ⟨_,(!t251),(by first|rfl|(simp;done)|(simp [*];done)),H',⟨by have:=HJ7.out;first|omega|exact Nat.le_refl _⟩,⟨by (with_reducible repeat (first|apply ra_|apply rn_|apply rd_));exact Kd.R_mono HO_1.out (fun _ hk=>trivial)⟩,⟨by repeat (first|(with_reducible first|exact HB.out|apply ba_|apply bn_|apply bd_)|exact HB.out)⟩⟩
     replace c42:=Bool.eq_false_iff.mpr c42
     subst c42
     have H1 : (garmentlaw14_awake.j1 kj7 y205 true) = some r:=by rw [if_neg (show ¬ (false = true) by decide)] at H;exact H
     clear H
     have H:=H1
     clear H1
     have H':=Aside0.mk H
     clear H
     go_wp2_with (first|((with_reducible refine gate_dst (N:=99) rfl ?_);(try (refine gate_guard (by rfl) ?_;dsimp only));refine Kd.R_lit k30 _ 30 ?hg (N:=99) ?hd (xs:=([(⟨0,0⟩ : S30),(⟨4,0⟩ : S30),(⟨2,2⟩ : S30)] : List (S30))) (inner:=[.int .i64 0,.int .i64 0,.int .i64 4,.int .i64 0,.int .i64 2,.int .i64 2]) (ok:=fun _=>True) (okp:=fun _=>True) ?hr ?hp (fun _ hk=>hk) trivial (Below.refl _ _) (Nat.le_refl _) (by simp) ?_;(case hd=>rfl);(case hg=>rfl);(case hr=>first|(go_simp;done)|(go_simp;rfl));(case hp=>exact (Reps.c2 (show Kd.M k30 _ _ _ (⟨0,0⟩ : S30) [.int .i64 0,.int .i64 0] from (k30_mkM _ _ _ (⟨0,0⟩ : S30) )) (Reps.c2 (show Kd.M k30 _ _ _ (⟨4,0⟩ : S30) [.int .i64 4,.int .i64 0] from (k30_mkM _ _ _ (⟨4,0⟩ : S30) )) (Reps.c2 (show Kd.M k30 _ _ _ (⟨2,2⟩ : S30) [.int .i64 2,.int .i64 2] from (k30_mkM _ _ _ (⟨2,2⟩ : S30) )) (Reps.none _ _)))));intro v241 w55 ho56 hb hg_ hnew_;clear hg_ hnew_;(first|rw [← Ny240.out] at ho56|(simp only [Int.reduceToNat] at ho56;rw [← Ny240.out] at ho56));have n0_:=Aside0.mk (Kd.R_elder' (by (with_reducible repeat (first|apply ra_|apply rn_|apply rd_));exact HO_1.out) (Kd.R_base ho56) hb);have n1_:=Aside0.mk (Kd.R_elder' (by (with_reducible repeat (first|apply ra_|apply rn_|apply rd_));exact HO_2.out) (Kd.R_base ho56) hb);have n2_:=Aside0.mk (Kd.R_elder' (by (with_reducible repeat (first|apply ra_|apply rn_|apply rd_));exact HO_6.out) (Kd.R_base ho56) hb);have n3_:=Aside0.mk (Kd.R_elder' (by (with_reducible repeat (first|apply ra_|apply rn_|apply rd_));exact HO_8.out) (Kd.R_base ho56) hb);have n4_:=Aside0.mk (Kd.R_lower (Kd.R_new' (Kd.R_new' (Kd.R_new' (Kd.R_new' ho56 (Kd.R_lt (by (with_reducible repeat (first|apply ra_|apply rn_|apply rd_));exact HO_1.out))) (Kd.R_lt (by (with_reducible repeat (first|apply ra_|apply rn_|apply rd_));exact HO_2.out))) (Kd.R_lt (by (with_reducible repeat (first|apply ra_|apply rn_|apply rd_));exact HO_6.out))) (Kd.R_lt (by (with_reducible repeat (first|apply ra_|apply rn_|apply rd_));exact HO_8.out))) (below_size (by repeat (first|(with_reducible first|exact HB.out|apply ba_|apply bn_|apply bd_)|exact HB.out))));have n5_:=Aside0.mk (below_step (by repeat (first|(with_reducible first|exact HB.out|apply ba_|apply bn_|apply bd_)|exact HB.out)) hb);clear HO_1;clear HO_2;clear HO_6;clear HO_8;clear HB;have HO_1:=n0_;have HO_2:=n1_;have HO_6:=n2_;have HO_8:=n3_;have HO242:=n4_;have HB:=n5_;clear n0_ n1_ n2_ n3_ n4_ n5_;clear hb ho56;obtain ⟨Ao57,co57,eo57⟩:=Kd.R_slice HO242.out;subst eo57)|((with_reducible refine gate_callee (f:=13) rfl ?_);refine goesL_ (some 100) rfl rfl Try.func13 (by kernel_rfl) rfl #[.slice Ao27 t211.length co27,.slice Ao57 y240.length co57] rfl (by (try simp only [List.map_toArray,List.map_cons,List.map_nil]);first|done|rfl|(simp only [List.length_drop,List.length_take];rfl)) ?_;(with_reducible refine (garmentref11_Same.calls kj7 _ _ t211 _ _ y240 true _ ?side1 ?side2 ?side3 ?side4 A39.out).mono ?_);(case side1=>repeat (first|exact (Kd.R_reads' HO_2.out).2.2|(with_reducible refine Kd.C_alloc ?_ _)|(with_reducible refine Kd.C_drewN ?_ _)|(with_reducible refine Kd.C_drew ?_)));(case side2=>exact (Kd.R_reads' HO_2.out).2.1);(case side3=>repeat (first|exact (Kd.R_reads' HO242.out).2.2|(with_reducible refine Kd.C_alloc ?_ _)|(with_reducible refine Kd.C_drewN ?_ _)|(with_reducible refine Kd.C_drew ?_)));(case side4=>exact (Kd.R_reads' HO242.out).2.1);rintro e w' ⟨rfl,⟨nd,rfl⟩⟩;refine ⟨_,rfl,?_⟩)|((with_reducible refine gate_dst (N:=109) rfl ?_);(try (refine gate_guard (by rfl) ?_;dsimp only));refine Kd.R_lit k30 _ 30 ?hg (N:=109) ?hd (xs:=([(⟨0,0⟩ : S30),(⟨3,0⟩ : S30),(⟨3,1⟩ : S30),(⟨1,3⟩ : S30),(⟨0,3⟩ : S30)] : List (S30))) (inner:=[.int .i64 0,.int .i64 0,.int .i64 3,.int .i64 0,.int .i64 3,.int .i64 1,.int .i64 1,.int .i64 3,.int .i64 0,.int .i64 3]) (ok:=fun _=>True) (okp:=fun _=>True) ?hr ?hp (fun _ hk=>hk) trivial (Below.refl _ _) (Nat.le_refl _) (by simp) ?_;(case hd=>rfl);(case hg=>rfl);(case hr=>first|(go_simp;done)|(go_simp;rfl));(case hp=>exact (Reps.c2 (show Kd.M k30 _ _ _ (⟨0,0⟩ : S30) [.int .i64 0,.int .i64 0] from (k30_mkM _ _ _ (⟨0,0⟩ : S30) )) (Reps.c2 (show Kd.M k30 _ _ _ (⟨3,0⟩ : S30) [.int .i64 3,.int .i64 0] from (k30_mkM _ _ _ (⟨3,0⟩ : S30) )) (Reps.c2 (show Kd.M k30 _ _ _ (⟨3,1⟩ : S30) [.int .i64 3,.int .i64 1] from (k30_mkM _ _ _ (⟨3,1⟩ : S30) )) (Reps.c2 (show Kd.M k30 _ _ _ (⟨1,3⟩ : S30) [.int .i64 1,.int .i64 3] from (k30_mkM _ _ _ (⟨1,3⟩ : S30) )) (Reps.c2 (show Kd.M k30 _ _ _ (⟨0,3⟩ : S30) [.int .i64 0,.int .i64 3] from (k30_mkM _ _ _ (⟨0,3⟩ : S30) )) (Reps.none _ _)))))));intro v245 w58 ho59 hb hg_ hnew_;clear hg_ hnew_;(first|rw [← Ny244.out] at ho59|(simp only [Int.reduceToNat] at ho59;rw [← Ny244.out] at ho59));have n0_:=Aside0.mk (Kd.R_elder' (by (with_reducible repeat (first|apply ra_|apply rn_|apply rd_));exact HO_1.out) (Kd.R_base ho59) hb);have n1_:=Aside0.mk (Kd.R_elder' (by (with_reducible repeat (first|apply ra_|apply rn_|apply rd_));exact HO_2.out) (Kd.R_base ho59) hb);have n2_:=Aside0.mk (Kd.R_elder' (by (with_reducible repeat (first|apply ra_|apply rn_|apply rd_));exact HO_6.out) (Kd.R_base ho59) hb);have n3_:=Aside0.mk (Kd.R_elder' (by (with_reducible repeat (first|apply ra_|apply rn_|apply rd_));exact HO_8.out) (Kd.R_base ho59) hb);have n4_:=Aside0.mk (Kd.R_elder' (by (with_reducible repeat (first|apply ra_|apply rn_|apply rd_));exact HO242.out) (Kd.R_base ho59) hb);have n5_:=Aside0.mk (Kd.R_lower (Kd.R_new' (Kd.R_new' (Kd.R_new' (Kd.R_new' (Kd.R_new' ho59 (Kd.R_lt (by (with_reducible repeat (first|apply ra_|apply rn_|apply rd_));exact HO_1.out))) (Kd.R_lt (by (with_reducible repeat (first|apply ra_|apply rn_|apply rd_));exact HO_2.out))) (Kd.R_lt (by (with_reducible repeat (first|apply ra_|apply rn_|apply rd_));exact HO_6.out))) (Kd.R_lt (by (with_reducible repeat (first|apply ra_|apply rn_|apply rd_));exact HO_8.out))) (Kd.R_lt (by (with_reducible repeat (first|apply ra_|apply rn_|apply rd_));exact HO242.out))) (below_size (by repeat (first|(with_reducible first|exact HB.out|apply ba_|apply bn_|apply bd_)|exact HB.out))));have n6_:=Aside0.mk (below_step (by repeat (first|(with_reducible first|exact HB.out|apply ba_|apply bn_|apply bd_)|exact HB.out)) hb);clear HO_1;clear HO_2;clear HO_6;clear HO_8;clear HO242;clear HB;have HO_1:=n0_;have HO_2:=n1_;have HO_6:=n2_;have HO_8:=n3_;have HO242:=n4_;have HO246:=n5_;have HB:=n6_;clear n0_ n1_ n2_ n3_ n4_ n5_ n6_;clear hb ho59;obtain ⟨Ao60,co60,eo60⟩:=Kd.R_slice HO_6.out;subst eo60;obtain ⟨Ao61,co61,eo61⟩:=Kd.R_slice HO246.out;subst eo61)|(go_at_call 13;(with_reducible refine (garmentref11_Same.calls kj7 _ _ t225 _ _ y244 false _ ?side1 ?side2 ?side3 ?side4 A41.out).mono ?_);(case side1=>repeat (first|exact (Kd.R_reads' HO_6.out).2.2|(with_reducible refine Kd.C_alloc ?_ _)|(with_reducible refine Kd.C_drewN ?_ _)|(with_reducible refine Kd.C_drew ?_)));(case side2=>exact (Kd.R_reads' HO_6.out).2.1);(case side3=>repeat (first|exact (Kd.R_reads' HO246.out).2.2|(with_reducible refine Kd.C_alloc ?_ _)|(with_reducible refine Kd.C_drewN ?_ _)|(with_reducible refine Kd.C_drew ?_)));(case side4=>exact (Kd.R_reads' HO246.out).2.1);rintro e w' ⟨rfl,⟨nd,rfl⟩⟩))
     go_meet
     case rel=>exact ⟨_,(true),(by first|rfl|(simp;done)|(simp [*];done)),H',⟨by have:=HJ7.out;first|omega|exact Nat.le_refl _⟩,⟨by (with_reducible repeat (first|apply ra_|apply rn_|apply rd_));exact Kd.R_mono HO_1.out (fun _ hk=>trivial)⟩,⟨by repeat (first|(with_reducible first|exact HB.out|apply ba_|apply bn_|apply bd_)|exact HB.out)⟩⟩
    replace c40:=Bool.eq_false_iff.mpr c40
    subst c40
    have H1 : (garmentlaw14_awake.j1 kj7 y205 true) = some r:=by rw [if_neg (show ¬ (false = true) by decide)] at H;exact H
    clear H
    have H:=H1
    clear H1
    have H':=Aside0.mk H
    clear H
    go_wp2_with (first|((with_reducible refine gate_dst (N:=99) rfl ?_);(try (refine gate_guard (by rfl) ?_;dsimp only));refine Kd.R_lit k30 _ 30 ?hg (N:=99) ?hd (xs:=([(⟨0,0⟩ : S30),(⟨4,0⟩ : S30),(⟨2,2⟩ : S30)] : List (S30))) (inner:=[.int .i64 0,.int .i64 0,.int .i64 4,.int .i64 0,.int .i64 2,.int .i64 2]) (ok:=fun _=>True) (okp:=fun _=>True) ?hr ?hp (fun _ hk=>hk) trivial (Below.refl _ _) (Nat.le_refl _) (by simp) ?_;(case hd=>rfl);(case hg=>rfl);(case hr=>first|(go_simp;done)|(go_simp;rfl));(case hp=>exact (Reps.c2 (show Kd.M k30 _ _ _ (⟨0,0⟩ : S30) [.int .i64 0,.int .i64 0] from (k30_mkM _ _ _ (⟨0,0⟩ : S30) )) (Reps.c2 (show Kd.M k30 _ _ _ (⟨4,0⟩ : S30) [.int .i64 4,.int .i64 0] from (k30_mkM _ _ _ (⟨4,0⟩ : S30) )) (Reps.c2 (show Kd.M k30 _ _ _ (⟨2,2⟩ : S30) [.int .i64 2,.int .i64 2] from (k30_mkM _ _ _ (⟨2,2⟩ : S30) )) (Reps.none _ _)))));intro v241 w62 ho63 hb hg_ hnew_;clear hg_ hnew_;(first|rw [← Ny240.out] at ho63|(simp only [Int.reduceToNat] at ho63;rw [← Ny240.out] at ho63));have n0_:=Aside0.mk (Kd.R_elder' (by (with_reducible repeat (first|apply ra_|apply rn_|apply rd_));exact HO_1.out) (Kd.R_base ho63) hb);have n1_:=Aside0.mk (Kd.R_elder' (by (with_reducible repeat (first|apply ra_|apply rn_|apply rd_));exact HO_2.out) (Kd.R_base ho63) hb);have n2_:=Aside0.mk (Kd.R_elder' (by (with_reducible repeat (first|apply ra_|apply rn_|apply rd_));exact HO_6.out) (Kd.R_base ho63) hb);have n3_:=Aside0.mk (Kd.R_elder' (by (with_reducible repeat (first|apply ra_|apply rn_|apply rd_));exact HO_8.out) (Kd.R_base ho63) hb);have n4_:=Aside0.mk (Kd.R_lower (Kd.R_new' (Kd.R_new' (Kd.R_new' (Kd.R_new' ho63 (Kd.R_lt (by (with_reducible repeat (first|apply ra_|apply rn_|apply rd_));exact HO_1.out))) (Kd.R_lt (by (with_reducible repeat (first|apply ra_|apply rn_|apply rd_));exact HO_2.out))) (Kd.R_lt (by (with_reducible repeat (first|apply ra_|apply rn_|apply rd_));exact HO_6.out))) (Kd.R_lt (by (with_reducible repeat (first|apply ra_|apply rn_|apply rd_));exact HO_8.out))) (below_size (by repeat (first|(with_reducible first|exact HB.out|apply ba_|apply bn_|apply bd_)|exact HB.out))));have n5_:=Aside0.mk (below_step (by repeat (first|(with_reducible first|exact HB.out|apply ba_|apply bn_|apply bd_)|exact HB.out)) hb);clear HO_1;clear HO_2;clear HO_6;clear HO_8;clear HB;have HO_1:=n0_;have HO_2:=n1_;have HO_6:=n2_;have HO_8:=n3_;have HO242:=n4_;have HB:=n5_;clear n0_ n1_ n2_ n3_ n4_ n5_;clear hb ho63;obtain ⟨Ao64,co64,eo64⟩:=Kd.R_slice HO242.out;subst eo64)|((with_reducible refine gate_callee (f:=13) rfl ?_);refine goesL_ (some 100) rfl rfl Try.func13 (by kernel_rfl) rfl #[.slice Ao27 t211.length co27,.slice Ao64 y240.length co64] rfl (by (try simp only [List.map_toArray,List.map_cons,List.map_nil]);first|done|rfl|(simp only [List.length_drop,List.length_take];rfl)) ?_;(with_reducible refine (garmentref11_Same.calls kj7 _ _ t211 _ _ y240 false _ ?side1 ?side2 ?side3 ?side4 A39.out).mono ?_);(case side1=>repeat (first|exact (Kd.R_reads' HO_2.out).2.2|(with_reducible refine Kd.C_alloc ?_ _)|(with_reducible refine Kd.C_drewN ?_ _)|(with_reducible refine Kd.C_drew ?_)));(case side2=>exact (Kd.R_reads' HO_2.out).2.1);(case side3=>repeat (first|exact (Kd.R_reads' HO242.out).2.2|(with_reducible refine Kd.C_alloc ?_ _)|(with_reducible refine Kd.C_drewN ?_ _)|(with_reducible refine Kd.C_drew ?_)));(case side4=>exact (Kd.R_reads' HO242.out).2.1);rintro e w' ⟨rfl,⟨nd,rfl⟩⟩;refine ⟨_,rfl,?_⟩))
    go_meet
    case rel=>exact ⟨_,(true),(by first|rfl|(simp;done)|(simp [*];done)),H',⟨by have:=HJ7.out;first|omega|exact Nat.le_refl _⟩,⟨by (with_reducible repeat (first|apply ra_|apply rn_|apply rd_));exact Kd.R_mono HO_1.out (fun _ hk=>trivial)⟩,⟨by repeat (first|(with_reducible first|exact HB.out|apply ba_|apply bn_|apply bd_)|exact HB.out)⟩⟩
   case rest =>
    clear HC38
    try clear c1
    try clear c2
    try clear p2
    try clear c3
    try clear c4
    try clear c10
    try clear c11
    try clear c13
    try clear c14
    try clear c16
    try clear c22
    try clear c30
    try clear c30b0
    try clear c30b1
    try clear c31
    try clear c31b0
    try clear c31b1
    try clear c32
    try clear c32b0
    try clear c32b1
    try clear c33
    try clear c33b0
    try clear c33b1
    try clear c34
    try clear c34b0
    try clear c34b1
    try clear c35
    try clear c35b0
    try clear c35b1
    try clear c36
    try clear c37
    try clear c40
    try clear c42
    try clear p2
    obtain ⟨kq,x124_37,rfl,HA,HJ37,HO_1,HB⟩:=hcut
    cases kq with
    | zero=>exact absurd HA.out (by simp [garmentlaw14_awake.j1])
    | succ kj37 =>
     have H:=HA.out
     clear HA
     simp only [garmentlaw14_awake.j1] at H
     by_cases c65 : x124_37 = true
     ·
      subst c65
      have H1 : (some false) = some r:=by rw [if_pos rfl] at H;exact H
      clear H
      have H:=H1
      clear H1
      obtain rfl:=Option.some.inj H
      go_wp2
      go_ret
      exact ⟨by first|rfl|(simp [errW_none,errW_some] <;> rfl)|(simp [*,errW_none,errW_some] <;> rfl),by repeat (first|(with_reducible first|exact HB.out|apply ba_|apply bn_|apply bd_)|exact HB.out)⟩
     replace c65:=Bool.eq_false_iff.mpr c65
     subst c65
     have H1 : ((convex_Support.f kj37 y205 1 1).bind fun t252=>(if t252 = 2 then ((convex_Support.f kj37 y205 (-1) (-3)).bind fun t253=>(if t253 = 0 then ((convex_Support.f kj37 y205 5000 0).bind fun t254=>(some (t254 == 2000))) else (some false))) else (some false))) = some r:=by rw [if_neg (show ¬ (false = true) by decide)] at H;exact H
     clear H
     have H:=H1
     clear H1
     replace H:=Option.bind_eq_some_iff.mp H
     obtain ⟨t252,A660,H⟩:=H
     replace H : (if t252 = 2 then ((convex_Support.f kj37 y205 (-1) (-3)).bind fun t253=>(if t253 = 0 then ((convex_Support.f kj37 y205 5000 0).bind fun t254=>(some (t254 == 2000))) else (some false))) else (some false)) = some r:=H
     have A66:=Aside0.mk A660
     clear A660
     by_cases c67 : t252 = 2
     ·
      rw [if_pos c67] at H
      have c67b0 : (t252 == 2) = true:=beq_iff_eq.mpr c67
      have c67b1 : (t252 != 2) = false:=bne_eq_false_iff_eq.mpr c67
      clear c67
      replace H:=Option.bind_eq_some_iff.mp H
      obtain ⟨t253,A680,H⟩:=H
      replace H : (if t253 = 0 then ((convex_Support.f kj37 y205 5000 0).bind fun t254=>(some (t254 == 2000))) else (some false)) = some r:=H
      have A68:=Aside0.mk A680
      clear A680
      by_cases c69 : t253 = 0
      ·
       rw [if_pos c69] at H
       have c69b0 : (t253 == 0) = true:=beq_iff_eq.mpr c69
       have c69b1 : (t253 != 0) = false:=bne_eq_false_iff_eq.mpr c69
       clear c69
       replace H:=Option.bind_eq_some_iff.mp H
       obtain ⟨t254,A700,H⟩:=H
       replace H : (some (t254 == 2000)) = some r:=H
       have A70:=Aside0.mk A700
       clear A700
       obtain rfl:=Option.some.inj H
       go_wp2_with (first|((with_reducible refine gate_callee (f:=18) rfl ?_);refine goesL_ (some 127) rfl rfl Try.func18 (by kernel_rfl) rfl #[.slice Ao21 y205.length co21,.agg #[.int .i64 1,.int .i64 1]] rfl (by (try simp only [List.map_toArray,List.map_cons,List.map_nil]);first|done|rfl|(simp only [List.length_drop,List.length_take];rfl)) ?_;(with_reducible refine (convex_Support.calls kj37 _ _ y205 1 1 t252 _ ?side1 ?side2 A66.out).mono ?_);(case side1=>repeat (first|exact (Kd.R_reads' HO_1.out).2.2|(with_reducible refine Kd.C_alloc ?_ _)|(with_reducible refine Kd.C_drewN ?_ _)|(with_reducible refine Kd.C_drew ?_)));(case side2=>exact (Kd.R_reads' HO_1.out).2.1);rintro e w71 ⟨rfl,hb⟩;refine ⟨_,rfl,?_⟩;have n0_:=Aside0.mk (Kd.R_below (by (with_reducible repeat (first|apply ra_|apply rn_|apply rd_));exact HO_1.out) hb);have n1_:=Aside0.mk (below_step (by repeat (first|(with_reducible first|exact HB.out|apply ba_|apply bn_|apply bd_)|exact HB.out)) hb);clear HO_1;clear HB;have HO_1:=n0_;have HB:=n1_;clear n0_ n1_;(try clear hb);(try clear hb2);(try clear hk);(try clear hi))|(go_at_call 18;(with_reducible refine (convex_Support.calls kj37 _ _ y205 (-1) (-3) t253 _ ?side1 ?side2 A68.out).mono ?_);(case side1=>repeat (first|exact (Kd.R_reads' HO_1.out).2.2|(with_reducible refine Kd.C_alloc ?_ _)|(with_reducible refine Kd.C_drewN ?_ _)|(with_reducible refine Kd.C_drew ?_)));(case side2=>exact (Kd.R_reads' HO_1.out).2.1);rintro e w72 ⟨rfl,hb⟩;have n0_:=Aside0.mk (Kd.R_below (by (with_reducible repeat (first|apply ra_|apply rn_|apply rd_));exact HO_1.out) hb);have n1_:=Aside0.mk (below_step (by repeat (first|(with_reducible first|exact HB.out|apply ba_|apply bn_|apply bd_)|exact HB.out)) hb);clear HO_1;clear HB;have HO_1:=n0_;have HB:=n1_;clear n0_ n1_;(try clear hb);(try clear hb2);(try clear hk);(try clear hi))|(go_at_call 18;(with_reducible refine (convex_Support.calls kj37 _ _ y205 5000 0 t254 _ ?side1 ?side2 A70.out).mono ?_);(case side1=>repeat (first|exact (Kd.R_reads' HO_1.out).2.2|(with_reducible refine Kd.C_alloc ?_ _)|(with_reducible refine Kd.C_drewN ?_ _)|(with_reducible refine Kd.C_drew ?_)));(case side2=>exact (Kd.R_reads' HO_1.out).2.1);rintro e w73 ⟨rfl,hb⟩;have n0_:=Aside0.mk (Kd.R_below (by (with_reducible repeat (first|apply ra_|apply rn_|apply rd_));exact HO_1.out) hb);have n1_:=Aside0.mk (below_step (by repeat (first|(with_reducible first|exact HB.out|apply ba_|apply bn_|apply bd_)|exact HB.out)) hb);clear HO_1;clear HB;have HO_1:=n0_;have HB:=n1_;clear n0_ n1_;(try clear hb);(try clear hb2);(try clear hk);(try clear hi)))
       go_ret
       exact ⟨by first|rfl|(simp [errW_none,errW_some] <;> rfl)|(simp [*,errW_none,errW_some] <;> rfl),by repeat (first|(with_reducible first|exact HB.out|apply ba_|apply bn_|apply bd_)|exact HB.out)⟩
      rw [if_neg c69] at H
      have c69b0 : (t253 == 0) = false:=beq_eq_false_iff_ne.mpr c69
      have c69b1 : (t253 != 0) = true:=bne_iff_ne.mpr c69
      obtain rfl:=Option.some.inj H
      go_wp2_with (first|((with_reducible refine gate_callee (f:=18) rfl ?_);refine goesL_ (some 127) rfl rfl Try.func18 (by kernel_rfl) rfl #[.slice Ao21 y205.length co21,.agg #[.int .i64 1,.int .i64 1]] rfl (by (try simp only [List.map_toArray,List.map_cons,List.map_nil]);first|done|rfl|(simp only [List.length_drop,List.length_take];rfl)) ?_;(with_reducible refine (convex_Support.calls kj37 _ _ y205 1 1 t252 _ ?side1 ?side2 A66.out).mono ?_);(case side1=>repeat (first|exact (Kd.R_reads' HO_1.out).2.2|(with_reducible refine Kd.C_alloc ?_ _)|(with_reducible refine Kd.C_drewN ?_ _)|(with_reducible refine Kd.C_drew ?_)));(case side2=>exact (Kd.R_reads' HO_1.out).2.1);rintro e w74 ⟨rfl,hb⟩;refine ⟨_,rfl,?_⟩;have n0_:=Aside0.mk (Kd.R_below (by (with_reducible repeat (first|apply ra_|apply rn_|apply rd_));exact HO_1.out) hb);have n1_:=Aside0.mk (below_step (by repeat (first|(with_reducible first|exact HB.out|apply ba_|apply bn_|apply bd_)|exact HB.out)) hb);clear HO_1;clear HB;have HO_1:=n0_;have HB:=n1_;clear n0_ n1_;(try clear hb);(try clear hb2);(try clear hk);(try clear hi))|(go_at_call 18;(with_reducible refine (convex_Support.calls kj37 _ _ y205 (-1) (-3) t253 _ ?side1 ?side2 A68.out).mono ?_);(case side1=>repeat (first|exact (Kd.R_reads' HO_1.out).2.2|(with_reducible refine Kd.C_alloc ?_ _)|(with_reducible refine Kd.C_drewN ?_ _)|(with_reducible refine Kd.C_drew ?_)));(case side2=>exact (Kd.R_reads' HO_1.out).2.1);rintro e w75 ⟨rfl,hb⟩;have n0_:=Aside0.mk (Kd.R_below (by (with_reducible repeat (first|apply ra_|apply rn_|apply rd_));exact HO_1.out) hb);have n1_:=Aside0.mk (below_step (by repeat (first|(with_reducible first|exact HB.out|apply ba_|apply bn_|apply bd_)|exact HB.out)) hb);clear HO_1;clear HB;have HO_1:=n0_;have HB:=n1_;clear n0_ n1_;(try clear hb);(try clear hb2);(try clear hk);(try clear hi)))
      go_ret
      exact ⟨by first|rfl|(simp [errW_none,errW_some] <;> rfl)|(simp [*,errW_none,errW_some] <;> rfl),by repeat (first|(with_reducible first|exact HB.out|apply ba_|apply bn_|apply bd_)|exact HB.out)⟩
     rw [if_neg c67] at H
     have c67b0 : (t252 == 2) = false:=beq_eq_false_iff_ne.mpr c67
     have c67b1 : (t252 != 2) = true:=bne_iff_ne.mpr c67
     obtain rfl:=Option.some.inj H
     go_wp2_with (first|((with_reducible refine gate_callee (f:=18) rfl ?_);refine goesL_ (some 127) rfl rfl Try.func18 (by kernel_rfl) rfl #[.slice Ao21 y205.length co21,.agg #[.int .i64 1,.int .i64 1]] rfl (by (try simp only [List.map_toArray,List.map_cons,List.map_nil]);first|done|rfl|(simp only [List.length_drop,List.length_take];rfl)) ?_;(with_reducible refine (convex_Support.calls kj37 _ _ y205 1 1 t252 _ ?side1 ?side2 A66.out).mono ?_);(case side1=>repeat (first|exact (Kd.R_reads' HO_1.out).2.2|(with_reducible refine Kd.C_alloc ?_ _)|(with_reducible refine Kd.C_drewN ?_ _)|(with_reducible refine Kd.C_drew ?_)));(case side2=>exact (Kd.R_reads' HO_1.out).2.1);rintro e w76 ⟨rfl,hb⟩;refine ⟨_,rfl,?_⟩;have n0_:=Aside0.mk (Kd.R_below (by (with_reducible repeat (first|apply ra_|apply rn_|apply rd_));exact HO_1.out) hb);have n1_:=Aside0.mk (below_step (by repeat (first|(with_reducible first|exact HB.out|apply ba_|apply bn_|apply bd_)|exact HB.out)) hb);clear HO_1;clear HB;have HO_1:=n0_;have HB:=n1_;clear n0_ n1_;(try clear hb);(try clear hb2);(try clear hk);(try clear hi)))
     go_ret
     exact ⟨by first|rfl|(simp [errW_none,errW_some] <;> rfl)|(simp [*,errW_none,errW_some] <;> rfl),by repeat (first|(with_reducible first|exact HB.out|apply ba_|apply bn_|apply bd_)|exact HB.out)⟩

end Go.Proofs.Ytlnigbhimdphoaa.C
