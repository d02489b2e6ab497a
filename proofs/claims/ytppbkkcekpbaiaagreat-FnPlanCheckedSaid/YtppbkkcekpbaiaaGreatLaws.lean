/- What some functions of the program compute, as partial functions on plain data, and that they do; each lemma bears its conditions in its statement. -/
import Derived.Test.YtppbkkcekpbaiaaGreatLane0a
import Derived.Test.YtppbkkcekpbaiaaGreatLane1a
set_option linter.unusedVariables false
set_option linter.unusedSimpArgs false
set_option linter.ambiguousOpen false
set_option linter.unusedSectionVars false
set_option linter.unnecessarySimpa false
set_option maxRecDepth 100000
set_option maxHeartbeats 40000000
noncomputable section
namespace Go.Proofs.YtppbkkcekpbaiaaGreat
open Go Go.E Go.A
theorem k6t {a0:(List UInt8)}{r:Bool}(hr:j9A a0=some r):Ok Tryz.prog 5 [.d .fz (.sl 1 (a0.map byD))] [] (dB r) []:=by
 refine OE Tryz.func5 fun S hS=>?_
 unfold j9A at hr
 exact e
theorem j0a {a0:(List UInt8)}{r:Bool}(hr:z0G a0=some r):Ok Tryz.prog 3 [.d .fz (.sl 1 (a0.map byD))] [] (dB r) []:=by
 refine OE Tryz.func3 fun S hS=>?_
 unfold z0G at hr
 refine bdE hr fun y1 hy1 hr=>J g<|J (CB' [] [] (k6t hy1))<|J (gn 1)<|ifE hr ?_ ?_<;>intro h1 hr
 exact e
 refine bdT hr fun y2 y3 y4 hq1 hr=>J g<|J (CB' [(0,0),(1,1),(2,2),(3,3)] [] (z9X hq1))<|J g<|J (NV' 4)<|J (gn 5) ?_
 refine q0E 0 Symbol.D (by exact fun _=>rfl) rfl ?_
 refine q0E 1 Rule.D (by exact fun _=>rfl) rfl ?_
 refine q0E 3 RPl_.D OwD.rd rfl ?_
 refine bdE hr fun y5 hy5 hr=>J g<|J (CB' [] [2] (j5u (m:=.bo) hy5))<|bdE hr fun y6 hy6 hr=>J g<|J (CB' [] [2] (j5k (m:=.bo) hy6)) ?_
 refine J (BQn' rfl rfl)<|J (gn 1)<|ifE hr ?_ ?_<;>intro h2 hr
 refine bdE hr fun q2 hq2 hr=>J g ?_
 obtain⟨y7,y8,y9,y10⟩:=q2
 refine J (CB' [(0,5),(1,6)] [] (z7w hq2))<|J g<|J (NV' 7)<|J (NV' 8)<|bdE hr fun y11 hy11 hr=>J g<|J (CB' [] [5,6] (z2s (m:=.bo) hy11))<|bdE hr fun y12 hy12 hr=>J g<|J (CB' [] [5,6] (z5I (m:=.bo) hy12)) ?_
 refine J (BQn' rfl rfl)<|J (gn 1)<|ifE hr ?_ ?_<;>intro h3 hr
 refine bdE hr fun q3 hqq3 hr=>J (gn 7)<|AW.cut 9 (fun _=>[]) (fun _=>[(0,.none),(1,.none),(3,.none)]) (M:=fun x=>q3=.inl x) ?_ fun x hx=>?_
 refine J g<|q0l hqq3 9 (fun s1=>[(3,.pb 4 0),(4,.ref 2 none),(5,.d .fz (.sl 2 (y4.map RPl_.D))),(6,dB y5),(11,dI s1)]) (fun s1=>[(0,.none),(1,.none),(3,.none)]) I fun sk1 ok1 hr hik1=>?_
 obtain⟨s1,rfl⟩:∃ y,y=sk1:=⟨_,rfl⟩
 have hr:=hr
 refine J (gn 7)<|ifE hr ?_ ?_<;>intro h4 hr
 refine J (gn 4)<|ifE hr ?_ ?_<;>intro h5 hr
 refine J g<|J (L0' 9 Step.D)<|ggE hr fun g1 hr=>bdE hr fun x1 hx1 hr=>ggE hr fun g2 hr=>J g<|J (j4Z (f:=Step.D) 10 40 (fun _=>rfl) g2)<|J g<|J (OB' _ (j7T (p:=x1.Steps.length) (k:=1) (by decide)))<|ggE hr fun g3 hr=>ggE hr fun g4 hr=>J (CU' 11 g3 g4)<|ggE hr fun g5 hr=>bdE hr fun x2 hx2 hr=>bdE hr fun y13 hy13 hr=>J g<|J (CB' [] [2,11] (z2s (m:=.bo) hy13))<|J (gn 1)<|ifE hr ?_ ?_<;>intro h6 hr
 exact e
 refine ggE hr fun g6 hr=>e
 refine J (gn 2) ?_
 cases hr
 cases hik1 _ rfl
 exact⟨_,rfl,q0h hS [(2,2),(4,4),(5,5),(6,6),(7,7),(8,8)] 9⟩
 refine J (gn 6) ?_
 cases hr
 cases hik1 _ rfl
 exact⟨_,rfl,q0h hS [(2,2),(4,4),(5,5),(6,6),(7,7),(8,8)] 9⟩
 subst hx
 exact e
 exact e
 exact e
end Go.Proofs.YtppbkkcekpbaiaaGreat
